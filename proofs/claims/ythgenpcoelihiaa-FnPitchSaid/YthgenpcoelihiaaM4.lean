/- FnPitch holds: for every input the law returns true, and its arguments read as before. -/
import Derived.Test.YthgenpcoelihiaaChecked
import Derived.Test.YthgenpcoelihiaaDeskE
import Derived.KernelRfl
import Derived.Test.YthgenpcoelihiaaRows
import Derived.WalkKit
import Derived.ProofKit
import Derived.OpenShut
import Derived.ShutString
import Derived.ChangeOld
import Derived.Below
import Derived.SizedLaws
set_option linter.all false
section
/- The tables of the reading: types and functions of the translation, with what is kept at each region's beginning (written by a program of this workplace). -/
namespace Go.Proofs.Ythgenpcoelihiaa.D
open Go Go.Desk
def bodyOf (f : Func) : Code := match f.body with
  | some c => c
  | none => .skip
def tyTab : List (Nat × TD) := [
  (2, ⟨false, 1, 8, [.leaf], [.int .i64 0], .int .i64⟩),
  (3, ⟨false, 1, 8, [.leaf], [.int .i64 0], .int .i64⟩),
  (4, ⟨false, 1, 1, [.leaf], [.bool false], .bool⟩),
  (5, ⟨false, 1, 1, [.leaf], [.int .u8 0], .int .u8⟩),
  (22, ⟨false, 1, 24, [.sl .own [.leaf]], [.lst 0 []], .slc 5⟩),
  (24, ⟨false, 1, 4, [.leaf], [.flt .f32 0], .flt .f32⟩),
  (33, ⟨false, 1, 24, [.sl .own [.leaf]], [.lst 0 []], .slc 24⟩),
  (75, ⟨false, 1, 8, [.leaf], [.nil], .ptr 105⟩),
  (103, ⟨false, 1, 8, [.leaf], [.int .u64 0], .int .u64⟩),
  (105, ⟨true, 3, 40, [.sl .own [.leaf], .leaf, .leaf], [.lst 0 [], .int .i64 0, .int .u64 0], .st [(0, 22), (1, 3), (2, 103)]⟩),
  (116, ⟨false, 1, 8, [.leaf], [.int .u64 0], .int .u64⟩)]
noncomputable def c4 : Code := bodyOf Try.f4
noncomputable def c22 : Code := bodyOf Try.f22
noncomputable def c23 : Code := bodyOf Try.f23
noncomputable def c24 : Code := bodyOf Try.f24
noncomputable def c25 : Code := bodyOf Try.f25
noncomputable def c26 : Code := bodyOf Try.f26
noncomputable def c27 : Code := bodyOf Try.f27
noncomputable def c28 : Code := bodyOf Try.f28
noncomputable def c71 : Code := bodyOf Try.f71
noncomputable def c72 : Code := bodyOf Try.f72
noncomputable def c73 : Code := bodyOf Try.f73
noncomputable def c80 : Code := bodyOf Try.f80
noncomputable def c81 : Code := bodyOf Try.f81
noncomputable def c82 : Code := bodyOf Try.f82
noncomputable def c83 : Code := bodyOf Try.f83
noncomputable def c84 : Code := bodyOf Try.f84
noncomputable def c85 : Code := bodyOf Try.f85
noncomputable def c111 : Code := bodyOf Try.f111
noncomputable def fnTab : List (Nat × FD) := [
  (4, .code c4 [.val, .val] [] [(4, none)] [(0, [0, 1]), (1, [0, 1]), (2, []), (3, [0, 1]), (4, [0, 1, 5]), (5, [0, 5, 6]), (6, [0, 5, 6, 7]), (7, [0, 5, 6, 7, 8]), (8, [0, 5, 6, 7, 8]), (9, [0, 5, 6, 7, 8]), (10, [0, 5, 7]), (11, [0, 5, 7, 9]), (12, [5, 7, 9, 10]), (13, [5, 7, 9, 10, 11, 12, 13]), (14, [5, 7, 9, 10, 11, 12, 13, 14, 15]), (15, []), (16, [7, 9, 10, 11]), (17, [7, 9, 10, 11, 16]), (18, [7, 9, 10, 11, 16]), (19, [7, 9, 10, 11, 16]), (20, [7, 9, 10, 11, 16, 17, 18]), (21, []), (22, [7, 9]), (23, [7, 9, 19, 20]), (24, [9, 19, 20, 21, 22]), (1000007, [0, 5, 7]), (1000017, [4, 7, 9])]),
  (22, .code c22 [.val, .val] [] [(4, none)] [(0, [0, 1]), (1, [0, 1])]),
  (23, .code c23 [.val, .val, .val] [] [(6, none)] [(0, [0, 1, 2]), (1, [0, 1, 2]), (2, []), (3, [0, 1, 2])]),
  (24, .code c24 [.val, .val] [] [(4, none)] [(0, [0, 1]), (1, [0, 1]), (2, [1, 5]), (3, [1, 5, 6]), (4, [1, 5, 6, 7]), (5, [1, 5, 6, 7]), (6, [1, 5, 6, 7]), (7, [6]), (1000004, [6])]),
  (25, .code c25 [.val, .val, .val] [] [(6, none), (7, none), (8, none)] [(0, [0, 1, 2]), (1, [0, 1, 2]), (2, [0, 1, 2, 9]), (3, []), (4, [0, 1, 2, 9]), (5, [0, 1, 2, 9, 10, 11]), (6, [0, 2, 9, 10, 11, 12]), (7, [0, 2, 9, 10, 11, 12]), (8, [0, 2, 9, 10, 11, 12]), (9, [0, 2, 9, 10, 11, 12, 13]), (10, [0, 2, 9, 12, 13]), (11, [10, 11]), (12, []), (13, [10, 11]), (1000006, [10, 11])]),
  (26, .code c26 [.val, .val, .val] [] [(6, none), (7, none)] [(0, [0, 1, 2]), (1, [0, 1, 2]), (2, [0, 1, 2, 8]), (3, []), (4, [0, 1, 2])]),
  (27, .code c27 [.val] [] [(2, none), (3, none)] [(0, [0]), (1, [0]), (2, []), (3, [0]), (4, [0, 4]), (5, [0, 4, 5]), (6, [0, 4, 5]), (7, [0, 4, 5]), (8, [0, 4, 5, 6, 7]), (9, [0, 4, 5]), (10, [4]), (1000005, [4])]),
  (28, .code c28 [.val] [] [(2, none)] [(0, [0]), (1, [0]), (2, [0, 3]), (3, [0, 3, 4]), (4, [0, 3, 4]), (5, [0, 3, 4]), (6, [3]), (1000003, [3])]),
  (71, .code c71 [.val] [] [(2, none)] [(0, [0]), (1, [0])]),
  (72, .code c72 [.iop, .val] [0] [(4, none)] [(0, [0, 1]), (1, [0, 1])]),
  (73, .code c73 [.iop, .val] [0] [(4, none)] [(0, [0, 1]), (1, [0, 1]), (2, [0]), (3, [0, 1]), (4, [0, 1, 5]), (5, [0, 1, 5]), (6, [0, 1, 5])]),
  (80, .code c80 [.iop] [0] [(2, none)] [(0, [0]), (1, [0]), (2, [0, 3]), (3, [0, 3]), (4, [0, 3])]),
  (81, .code c81 [.val] [] [(2, none)] [(0, [0]), (1, [0])]),
  (82, .code c82 [.val] [] [(2, none)] [(0, [0]), (1, [0])]),
  (83, .code c83 [.val, .val, .val] [] [(6, none)] [(0, [0, 1, 2]), (1, [0, 1, 2])]),
  (84, .code c84 [.val, .val, .val] [] [(6, none)] [(0, [0, 1, 2]), (1, [0, 1, 2]), (2, [0, 1, 2, 7]), (3, [0, 1, 2, 7, 8]), (4, [0, 1, 2, 7, 8]), (5, [0, 1, 2, 7, 8]), (6, [7]), (1000003, [7])]),
  (85, .code c85 [.val, .val] [] [(4, none)] [(0, [0, 1]), (1, [0, 1]), (2, [0, 1, 5]), (3, [0, 1, 5, 8, 9]), (4, [0, 1, 5, 8, 9]), (5, [0, 1, 5, 6, 8, 9]), (6, [0, 1, 5, 8, 9]), (7, [5]), (1000003, [5])]),
  (111, .code c111 [.iop] [0] [(2, none)] [(0, [0]), (1, [0]), (2, [0, 3]), (3, [0]), (4, [0, 3]), (5, [0, 3]), (6, [0, 3]), (7, [0, 3]), (8, [0])])]
noncomputable def E : Env := ⟨fun t => lookT tyTab t, lookF fnTab⟩
noncomputable def fdAt (n : Nat) : FD := match lookF fnTab n with
  | some d => d
  | none => .ext fun _ => none
noncomputable def keepAt (n : Nat) : List (Nat × List Nat) := match lookF fnTab n with
  | some d => d.keep
  | none => []
theorem tysOk : TysOk Try.prog E := tysOk_of (l := tyTab) (fun _ => rfl) (by kernel_rfl)
theorem ft4 : FnTab Try.prog E 4 (fdAt 4) := fnTab_code (c := c4) (modes := (fdAt 4).ms) (outs := (fdAt 4).os) (results := (fdAt 4).rs) (keep := (fdAt 4).keep) Try.func4 (by kernel_rfl) (by kernel_rfl) (by kernel_rfl)
theorem ft22 : FnTab Try.prog E 22 (fdAt 22) := fnTab_code (c := c22) (modes := (fdAt 22).ms) (outs := (fdAt 22).os) (results := (fdAt 22).rs) (keep := (fdAt 22).keep) Try.func22 (by kernel_rfl) (by kernel_rfl) (by kernel_rfl)
theorem ft23 : FnTab Try.prog E 23 (fdAt 23) := fnTab_code (c := c23) (modes := (fdAt 23).ms) (outs := (fdAt 23).os) (results := (fdAt 23).rs) (keep := (fdAt 23).keep) Try.func23 (by kernel_rfl) (by kernel_rfl) (by kernel_rfl)
theorem ft24 : FnTab Try.prog E 24 (fdAt 24) := fnTab_code (c := c24) (modes := (fdAt 24).ms) (outs := (fdAt 24).os) (results := (fdAt 24).rs) (keep := (fdAt 24).keep) Try.func24 (by kernel_rfl) (by kernel_rfl) (by kernel_rfl)
theorem ft25 : FnTab Try.prog E 25 (fdAt 25) := fnTab_code (c := c25) (modes := (fdAt 25).ms) (outs := (fdAt 25).os) (results := (fdAt 25).rs) (keep := (fdAt 25).keep) Try.func25 (by kernel_rfl) (by kernel_rfl) (by kernel_rfl)
theorem ft26 : FnTab Try.prog E 26 (fdAt 26) := fnTab_code (c := c26) (modes := (fdAt 26).ms) (outs := (fdAt 26).os) (results := (fdAt 26).rs) (keep := (fdAt 26).keep) Try.func26 (by kernel_rfl) (by kernel_rfl) (by kernel_rfl)
theorem ft27 : FnTab Try.prog E 27 (fdAt 27) := fnTab_code (c := c27) (modes := (fdAt 27).ms) (outs := (fdAt 27).os) (results := (fdAt 27).rs) (keep := (fdAt 27).keep) Try.func27 (by kernel_rfl) (by kernel_rfl) (by kernel_rfl)
theorem ft28 : FnTab Try.prog E 28 (fdAt 28) := fnTab_code (c := c28) (modes := (fdAt 28).ms) (outs := (fdAt 28).os) (results := (fdAt 28).rs) (keep := (fdAt 28).keep) Try.func28 (by kernel_rfl) (by kernel_rfl) (by kernel_rfl)
theorem ft71 : FnTab Try.prog E 71 (fdAt 71) := fnTab_code (c := c71) (modes := (fdAt 71).ms) (outs := (fdAt 71).os) (results := (fdAt 71).rs) (keep := (fdAt 71).keep) Try.func71 (by kernel_rfl) (by kernel_rfl) (by kernel_rfl)
theorem ft72 : FnTab Try.prog E 72 (fdAt 72) := fnTab_code (c := c72) (modes := (fdAt 72).ms) (outs := (fdAt 72).os) (results := (fdAt 72).rs) (keep := (fdAt 72).keep) Try.func72 (by kernel_rfl) (by kernel_rfl) (by kernel_rfl)
theorem ft73 : FnTab Try.prog E 73 (fdAt 73) := fnTab_code (c := c73) (modes := (fdAt 73).ms) (outs := (fdAt 73).os) (results := (fdAt 73).rs) (keep := (fdAt 73).keep) Try.func73 (by kernel_rfl) (by kernel_rfl) (by kernel_rfl)
theorem ft80 : FnTab Try.prog E 80 (fdAt 80) := fnTab_code (c := c80) (modes := (fdAt 80).ms) (outs := (fdAt 80).os) (results := (fdAt 80).rs) (keep := (fdAt 80).keep) Try.func80 (by kernel_rfl) (by kernel_rfl) (by kernel_rfl)
theorem ft81 : FnTab Try.prog E 81 (fdAt 81) := fnTab_code (c := c81) (modes := (fdAt 81).ms) (outs := (fdAt 81).os) (results := (fdAt 81).rs) (keep := (fdAt 81).keep) Try.func81 (by kernel_rfl) (by kernel_rfl) (by kernel_rfl)
theorem ft82 : FnTab Try.prog E 82 (fdAt 82) := fnTab_code (c := c82) (modes := (fdAt 82).ms) (outs := (fdAt 82).os) (results := (fdAt 82).rs) (keep := (fdAt 82).keep) Try.func82 (by kernel_rfl) (by kernel_rfl) (by kernel_rfl)
theorem ft83 : FnTab Try.prog E 83 (fdAt 83) := fnTab_code (c := c83) (modes := (fdAt 83).ms) (outs := (fdAt 83).os) (results := (fdAt 83).rs) (keep := (fdAt 83).keep) Try.func83 (by kernel_rfl) (by kernel_rfl) (by kernel_rfl)
theorem ft84 : FnTab Try.prog E 84 (fdAt 84) := fnTab_code (c := c84) (modes := (fdAt 84).ms) (outs := (fdAt 84).os) (results := (fdAt 84).rs) (keep := (fdAt 84).keep) Try.func84 (by kernel_rfl) (by kernel_rfl) (by kernel_rfl)
theorem ft85 : FnTab Try.prog E 85 (fdAt 85) := fnTab_code (c := c85) (modes := (fdAt 85).ms) (outs := (fdAt 85).os) (results := (fdAt 85).rs) (keep := (fdAt 85).keep) Try.func85 (by kernel_rfl) (by kernel_rfl) (by kernel_rfl)
theorem ft111 : FnTab Try.prog E 111 (fdAt 111) := fnTab_code (c := c111) (modes := (fdAt 111).ms) (outs := (fdAt 111).os) (results := (fdAt 111).rs) (keep := (fdAt 111).keep) Try.func111 (by kernel_rfl) (by kernel_rfl) (by kernel_rfl)
theorem allFns : AllFns Try.prog E fnTab := .cons ft4 (.cons ft22 (.cons ft23 (.cons ft24 (.cons ft25 (.cons ft26 (.cons ft27 (.cons ft28 (.cons ft71 (.cons ft72 (.cons ft73 (.cons ft80 (.cons ft81 (.cons ft82 (.cons ft83 (.cons ft84 (.cons ft85 (.cons ft111 (.nil))))))))))))))))))
theorem fnOk : ∀ f fd, E.fn f = some fd → FnTab Try.prog E f fd := fnTab_of (l := fnTab) (fun _ => rfl) allFns
end Go.Proofs.Ythgenpcoelihiaa.D
end
section
/- Plain functions for the law's Go functions, each tied to the reading by the kernel (printed by a program of this workplace). -/
namespace Go.Proofs.Ythgenpcoelihiaa.D
open Go Go.Desk
set_option linter.unusedVariables false
def f22_l_r8Long : Nat → Nat → List T → Nat → List T → Option (Bool)
  | 0, _, _, _, _ => none
  | n + 1, n1, l2, n3, l4 =>
    br (decide (((n1 : Nat) : Int) > (48 : Int))) (
     some true) (
     some (decide (((n3 : Nat) : Int) > (48 : Int))))
def sg_ll : Sig (Nat × List T × Nat × List T) where
  pk := fun v => [.lst v.1 v.2.1, .lst v.2.2.1 v.2.2.2]
  up := fun ls => match ls with
    | [.lst a0 a1, .lst a2 a3] => some (a0, a1, a2, a3)
    | _ => none
  ok := by
    intro ls v h
    split at h
    · cases h; rfl
    · cases h

def sg_b : Sig (Bool) where
  pk := fun v => [.bool v]
  up := fun ls => match ls with
    | [.bool a0] => some a0
    | _ => none
  ok := by
    intro ls v h
    split at h
    · cases h; rfl
    · cases h

def f22_l_r8Long.P : List Arg := [⟨.val, ⟨false, [.sl .shr [.leaf]], [.lst 0 []]⟩⟩, ⟨.val, ⟨false, [.sl .shr [.leaf]], [.lst 0 []]⟩⟩]
def f22_l_r8Long.A : RAlt (Bool) := .one ⟨[⟨false, [.leaf], [.bool false]⟩], [none, none]⟩ sg_b
def f22_l_r8Long.F (n : Nat) (v : Nat × List T × Nat × List T) := f22_l_r8Long n v.1 v.2.1 v.2.2.1 v.2.2.2
noncomputable def f22_l_r8Long.O (n : Nat) : Orc := orcOf (E := E) [] [] n
theorem f22_l_r8Long.ok : ∀ n v x, f22_l_r8Long.F n v = some x → evalFn E n 22 (flAs f22_l_r8Long.P (sg_ll.pk v)) = some (f22_l_r8Long.A.enc x) :=
  fn_pure (modes := (fdAt 22).ms) (outs := (fdAt 22).os) (results := (fdAt 22).rs) f22_l_r8Long.O (c := c22) (keep := keepAt 22) (by kernel_rfl) (fun n => orcOf_cf _ _ n) (fun n => lpOk_of (bs := []) (by kernel_rfl) .nil) (fun _ => rfl) (fun _ _ => by kernel_rfl)
noncomputable def f22_l_r8Long.w : FnW E := fnW 22 f22_l_r8Long.P sg_ll f22_l_r8Long.A f22_l_r8Long.F f22_l_r8Long.ok

def f23_l_r8At : Nat → Nat → List T → Int → Int → Option (Int)
  | 0, _, _, _, _ => none
  | n + 1, n1, l2, i3, i4 =>
    br (decide (i4 ≤ (1 : Int))) (
     some (0 : Int)) (
     br (decide (i3 ≥ ((n1 : Nat) : Int))) (
      some (0 : Int)) (
      gd ((decide (((0 : Int) ≤ i3) ∧ (i3 < ((n1 : Nat) : Int)))) && (okAt [(CK.int IntKind.u8)] l2 (Int.toNat i3))) (
      gd (!(decide (i4 = (0 : Int)))) (
      some (Int.tmod (IntKind.i64.wrap (iAt l2 (Int.toNat i3))) i4)))))
def sg_lii : Sig (Nat × List T × Int × Int) where
  pk := fun v => [.lst v.1 v.2.1, .int v.2.2.1, .int v.2.2.2]
  up := fun ls => match ls with
    | [.lst a0 a1, .int a2, .int a3] => some (a0, a1, a2, a3)
    | _ => none
  ok := by
    intro ls v h
    split at h
    · cases h; rfl
    · cases h

def sg_i : Sig (Int) where
  pk := fun v => [.int v]
  up := fun ls => match ls with
    | [.int a0] => some a0
    | _ => none
  ok := by
    intro ls v h
    split at h
    · cases h; rfl
    · cases h

def f23_l_r8At.P : List Arg := [⟨.val, ⟨false, [.sl .shr [.leaf]], [.lst 0 []]⟩⟩, ⟨.val, ⟨false, [.leaf], [.int .i64 0]⟩⟩, ⟨.val, ⟨false, [.leaf], [.int .i64 0]⟩⟩]
def f23_l_r8At.A : RAlt (Int) := .one ⟨[⟨false, [.leaf], [.int .i64 0]⟩], [none, none, none]⟩ sg_i
def f23_l_r8At.F (n : Nat) (v : Nat × List T × Int × Int) := f23_l_r8At n v.1 v.2.1 v.2.2.1 v.2.2.2
noncomputable def f23_l_r8At.O (n : Nat) : Orc := orcOf (E := E) [] [] n
theorem f23_l_r8At.ok : ∀ n v x, f23_l_r8At.F n v = some x → evalFn E n 23 (flAs f23_l_r8At.P (sg_lii.pk v)) = some (f23_l_r8At.A.enc x) :=
  fn_pure (modes := (fdAt 23).ms) (outs := (fdAt 23).os) (results := (fdAt 23).rs) f23_l_r8At.O (c := c23) (keep := keepAt 23) (by kernel_rfl) (fun n => orcOf_cf _ _ n) (fun n => lpOk_of (bs := []) (by kernel_rfl) .nil) (fun _ => rfl) (fun _ _ => by kernel_rfl)
noncomputable def f23_l_r8At.w : FnW E := fnW 23 f23_l_r8At.P sg_lii f23_l_r8At.A f23_l_r8At.F f23_l_r8At.ok

def f71_s_l00From : Nat → Nat → List T → Option (Nat × List T × Int × Int)
  | 0, _, _ => none
  | n + 1, n1, l2 =>
    some (n1, l2, (0 : Int), (0 : Int))
def sg_l : Sig (Nat × List T) where
  pk := fun v => [.lst v.1 v.2]
  up := fun ls => match ls with
    | [.lst a0 a1] => some (a0, a1)
    | _ => none
  ok := by
    intro ls v h
    split at h
    · cases h; rfl
    · cases h

def f71_s_l00From.P : List Arg := [⟨.val, ⟨false, [.sl .shr [.leaf]], [.lst 0 []]⟩⟩]
def f71_s_l00From.A : RAlt (Nat × List T × Int × Int) := .one ⟨[⟨false, [.rf .own [.sl .shr [.leaf], .leaf, .leaf]], [.ref [.lst 0 [], .int .i64 0, .int .u64 0]]⟩], [none]⟩ sg_lii
def f71_s_l00From.F (n : Nat) (v : Nat × List T) := f71_s_l00From n v.1 v.2
noncomputable def f71_s_l00From.O (n : Nat) : Orc := orcOf (E := E) [] [] n
theorem f71_s_l00From.ok : ∀ n v x, f71_s_l00From.F n v = some x → evalFn E n 71 (flAs f71_s_l00From.P (sg_l.pk v)) = some (f71_s_l00From.A.enc x) :=
  fn_pure (modes := (fdAt 71).ms) (outs := (fdAt 71).os) (results := (fdAt 71).rs) f71_s_l00From.O (c := c71) (keep := keepAt 71) (by kernel_rfl) (fun n => orcOf_cf _ _ n) (fun n => lpOk_of (bs := []) (by kernel_rfl) .nil) (fun _ => rfl) (fun _ _ => by kernel_rfl)
noncomputable def f71_s_l00From.w : FnW E := fnW 71 f71_s_l00From.P sg_l f71_s_l00From.A f71_s_l00From.F f71_s_l00From.ok

def f111_s_l00Srcnext : Nat → Nat → List T → Int → Int → Option (Int × Nat × List T × Int × Int)
  | 0, _, _, _, _ => none
  | n + 1, n1, l2, i3, i4 =>
    br (decide (i3 < ((n1 : Nat) : Int))) (
     gd ((decide (((0 : Int) ≤ i3) ∧ (i3 < ((n1 : Nat) : Int)))) && (okAt [(CK.int IntKind.u8)] l2 (Int.toNat i3))) (
     let i5 : Int := (IntKind.i64.wrap (iAt l2 (Int.toNat i3)))
     let i6 : Int := (IntKind.i64.wrap (i3 + (1 : Int)))
     let i7 : Int := (IntKind.u64.wrap ((IntKind.u64.wrap ((IntKind.u64.wrap (i4 * (6364136223846793005 : Int))) + (IntKind.u64.wrap i5))) + (1442695040888963407 : Int)))
     br (decide (i6 ≤ ((n1 : Nat) : Int))) (
      some (i5, n1, l2, i6, i7)) (
      some ((IntKind.i64.wrap (intBits BinOp.and IntKind.u64 (Int.fdiv i7 (1099511627776 : Int)) (255 : Int))), n1, l2, i6, i7)))) (
     let i8 : Int := (IntKind.i64.wrap (i3 + (1 : Int)))
     let i9 : Int := (IntKind.u64.wrap ((IntKind.u64.wrap ((IntKind.u64.wrap (i4 * (6364136223846793005 : Int))) + (0 : Int))) + (1442695040888963407 : Int)))
     br (decide (i8 ≤ ((n1 : Nat) : Int))) (
      some ((0 : Int), n1, l2, i8, i9)) (
      some ((IntKind.i64.wrap (intBits BinOp.and IntKind.u64 (Int.fdiv i9 (1099511627776 : Int)) (255 : Int))), n1, l2, i8, i9)))
def sg_ilii : Sig (Int × Nat × List T × Int × Int) where
  pk := fun v => [.int v.1, .lst v.2.1 v.2.2.1, .int v.2.2.2.1, .int v.2.2.2.2]
  up := fun ls => match ls with
    | [.int a0, .lst a1 a2, .int a3, .int a4] => some (a0, a1, a2, a3, a4)
    | _ => none
  ok := by
    intro ls v h
    split at h
    · cases h; rfl
    · cases h

def f111_s_l00Srcnext.P : List Arg := [⟨.iop, ⟨false, [.rf .own [.sl .shr [.leaf], .leaf, .leaf]], [.ref [.lst 0 [], .int .i64 0, .int .u64 0]]⟩⟩]
def f111_s_l00Srcnext.A : RAlt (Int × Nat × List T × Int × Int) := .one ⟨[⟨false, [.leaf], [.int .i64 0]⟩], [some ⟨false, [.rf .own [.sl .shr [.leaf], .leaf, .leaf]], [.ref [.lst 0 [], .int .i64 0, .int .u64 0]]⟩]⟩ sg_ilii
def f111_s_l00Srcnext.F (n : Nat) (v : Nat × List T × Int × Int) := f111_s_l00Srcnext n v.1 v.2.1 v.2.2.1 v.2.2.2
noncomputable def f111_s_l00Srcnext.O (n : Nat) : Orc := orcOf (E := E) [] [] n
theorem f111_s_l00Srcnext.ok : ∀ n v x, f111_s_l00Srcnext.F n v = some x → evalFn E n 111 (flAs f111_s_l00Srcnext.P (sg_lii.pk v)) = some (f111_s_l00Srcnext.A.enc x) :=
  fn_pure (modes := (fdAt 111).ms) (outs := (fdAt 111).os) (results := (fdAt 111).rs) f111_s_l00Srcnext.O (c := c111) (keep := keepAt 111) (by kernel_rfl) (fun n => orcOf_cf _ _ n) (fun n => lpOk_of (bs := []) (by kernel_rfl) .nil) (fun _ => rfl) (fun _ _ => by kernel_rfl)
noncomputable def f111_s_l00Srcnext.w : FnW E := fnW 111 f111_s_l00Srcnext.P sg_lii f111_s_l00Srcnext.A f111_s_l00Srcnext.F f111_s_l00Srcnext.ok

def f73_s_l00Srcpick : Nat → Nat → List T → Int → Int → Int → Option (Int × Nat × List T × Int × Int)
  | 0, _, _, _, _, _ => none
  | n + 1, n1, l2, i3, i4, i5 =>
    br (decide (i5 ≤ (1 : Int))) (
     some ((0 : Int), n1, l2, i3, i4)) (
     bd (f111_s_l00Srcnext n n1 l2 i3 i4) fun r6 =>
     let i7 : Int := r6.1
     let n8 : Nat := r6.2.1
     let l9 : List T := r6.2.2.1
     let i10 : Int := r6.2.2.2.1
     let i11 : Int := r6.2.2.2.2
     br (decide (i5 > (200 : Int))) (
      bd (f111_s_l00Srcnext n n8 l9 i10 i11) fun r12 =>
      let i13 : Int := r12.1
      let n14 : Nat := r12.2.1
      let l15 : List T := r12.2.2.1
      let i16 : Int := r12.2.2.2.1
      let i17 : Int := r12.2.2.2.2
      let i18 : Int := (IntKind.i64.wrap ((IntKind.i64.wrap (i7 * (256 : Int))) + i13))
      gd (!(decide (i5 = (0 : Int)))) (
      some ((Int.tmod i18 i5), n14, l15, i16, i17))) (
      gd (!(decide (i5 = (0 : Int)))) (
      some ((Int.tmod i7 i5), n8, l9, i10, i11))))
def sg_liii : Sig (Nat × List T × Int × Int × Int) where
  pk := fun v => [.lst v.1 v.2.1, .int v.2.2.1, .int v.2.2.2.1, .int v.2.2.2.2]
  up := fun ls => match ls with
    | [.lst a0 a1, .int a2, .int a3, .int a4] => some (a0, a1, a2, a3, a4)
    | _ => none
  ok := by
    intro ls v h
    split at h
    · cases h; rfl
    · cases h

def f73_s_l00Srcpick.P : List Arg := [⟨.iop, ⟨false, [.rf .own [.sl .shr [.leaf], .leaf, .leaf]], [.ref [.lst 0 [], .int .i64 0, .int .u64 0]]⟩⟩, ⟨.val, ⟨false, [.leaf], [.int .i64 0]⟩⟩]
def f73_s_l00Srcpick.A : RAlt (Int × Nat × List T × Int × Int) := .one ⟨[⟨false, [.leaf], [.int .i64 0]⟩], [some ⟨false, [.rf .own [.sl .shr [.leaf], .leaf, .leaf]], [.ref [.lst 0 [], .int .i64 0, .int .u64 0]]⟩, none]⟩ sg_ilii
def f73_s_l00Srcpick.F (n : Nat) (v : Nat × List T × Int × Int × Int) := f73_s_l00Srcpick n v.1 v.2.1 v.2.2.1 v.2.2.2.1 v.2.2.2.2
noncomputable def f73_s_l00Srcpick.O (n : Nat) : Orc := orcOf (E := E) [f111_s_l00Srcnext.w] [] n
theorem f73_s_l00Srcpick.ok : ∀ n v x, f73_s_l00Srcpick.F n v = some x → evalFn E n 73 (flAs f73_s_l00Srcpick.P (sg_liii.pk v)) = some (f73_s_l00Srcpick.A.enc x) :=
  fn_pure (modes := (fdAt 73).ms) (outs := (fdAt 73).os) (results := (fdAt 73).rs) f73_s_l00Srcpick.O (c := c73) (keep := keepAt 73) (by kernel_rfl) (fun n => orcOf_cf _ _ n) (fun n => lpOk_of (bs := []) (by kernel_rfl) .nil) (fun _ => rfl) (fun _ _ => by kernel_rfl)
noncomputable def f73_s_l00Srcpick.w : FnW E := fnW 73 f73_s_l00Srcpick.P sg_liii f73_s_l00Srcpick.A f73_s_l00Srcpick.F f73_s_l00Srcpick.ok

def f72_s_l00Srcone : Nat → Nat → List T → Int → Int → Int → Option (Bool × Nat × List T × Int × Int)
  | 0, _, _, _, _, _ => none
  | n + 1, n1, l2, i3, i4, i5 =>
    bd (f73_s_l00Srcpick n n1 l2 i3 i4 i5) fun r6 =>
    let i7 : Int := r6.1
    let n8 : Nat := r6.2.1
    let l9 : List T := r6.2.2.1
    let i10 : Int := r6.2.2.2.1
    let i11 : Int := r6.2.2.2.2
    some ((i7 == (0 : Int)), n8, l9, i10, i11)
def sg_blii : Sig (Bool × Nat × List T × Int × Int) where
  pk := fun v => [.bool v.1, .lst v.2.1 v.2.2.1, .int v.2.2.2.1, .int v.2.2.2.2]
  up := fun ls => match ls with
    | [.bool a0, .lst a1 a2, .int a3, .int a4] => some (a0, a1, a2, a3, a4)
    | _ => none
  ok := by
    intro ls v h
    split at h
    · cases h; rfl
    · cases h

def f72_s_l00Srcone.P : List Arg := [⟨.iop, ⟨false, [.rf .own [.sl .shr [.leaf], .leaf, .leaf]], [.ref [.lst 0 [], .int .i64 0, .int .u64 0]]⟩⟩, ⟨.val, ⟨false, [.leaf], [.int .i64 0]⟩⟩]
def f72_s_l00Srcone.A : RAlt (Bool × Nat × List T × Int × Int) := .one ⟨[⟨false, [.leaf], [.bool false]⟩], [some ⟨false, [.rf .own [.sl .shr [.leaf], .leaf, .leaf]], [.ref [.lst 0 [], .int .i64 0, .int .u64 0]]⟩, none]⟩ sg_blii
def f72_s_l00Srcone.F (n : Nat) (v : Nat × List T × Int × Int × Int) := f72_s_l00Srcone n v.1 v.2.1 v.2.2.1 v.2.2.2.1 v.2.2.2.2
noncomputable def f72_s_l00Srcone.O (n : Nat) : Orc := orcOf (E := E) [f73_s_l00Srcpick.w] [] n
theorem f72_s_l00Srcone.ok : ∀ n v x, f72_s_l00Srcone.F n v = some x → evalFn E n 72 (flAs f72_s_l00Srcone.P (sg_liii.pk v)) = some (f72_s_l00Srcone.A.enc x) :=
  fn_pure (modes := (fdAt 72).ms) (outs := (fdAt 72).os) (results := (fdAt 72).rs) f72_s_l00Srcone.O (c := c72) (keep := keepAt 72) (by kernel_rfl) (fun n => orcOf_cf _ _ n) (fun n => lpOk_of (bs := []) (by kernel_rfl) .nil) (fun _ => rfl) (fun _ _ => by kernel_rfl)
noncomputable def f72_s_l00Srcone.w : FnW E := fnW 72 f72_s_l00Srcone.P sg_liii f72_s_l00Srcone.A f72_s_l00Srcone.F f72_s_l00Srcone.ok

def f80_s_l01DrawPlain : Nat → Nat → List T → Int → Int → Option (Nat × Nat × List T × Int × Int)
  | 0, _, _, _, _ => none
  | n + 1, n1, l2, i3, i4 =>
    bd (f73_s_l00Srcpick n n1 l2 i3 i4 (129 : Int)) fun r5 =>
    let i6 : Int := r5.1
    let n7 : Nat := r5.2.1
    let l8 : List T := r5.2.2.1
    let i9 : Int := r5.2.2.2.1
    let i10 : Int := r5.2.2.2.2
    let i11 : Int := (IntKind.i64.wrap (i6 - (64 : Int)))
    bd (f72_s_l00Srcone n n7 l8 i9 i10 (4 : Int)) fun r12 =>
    let b13 : Bool := r12.1
    let n14 : Nat := r12.2.1
    let l15 : List T := r12.2.2.1
    let i16 : Int := r12.2.2.2.1
    let i17 : Int := r12.2.2.2.2
    br b13 (
     some ((fdiv FloatKind.f32 (FloatKind.nearest FloatKind.f32 i11) 1088421888), n14, l15, i16, i17)) (
     some ((fdiv FloatKind.f32 (FloatKind.nearest FloatKind.f32 i11) 1098907648), n14, l15, i16, i17))
def sg_flii : Sig (Nat × Nat × List T × Int × Int) where
  pk := fun v => [.flt v.1, .lst v.2.1 v.2.2.1, .int v.2.2.2.1, .int v.2.2.2.2]
  up := fun ls => match ls with
    | [.flt a0, .lst a1 a2, .int a3, .int a4] => some (a0, a1, a2, a3, a4)
    | _ => none
  ok := by
    intro ls v h
    split at h
    · cases h; rfl
    · cases h

def f80_s_l01DrawPlain.P : List Arg := [⟨.iop, ⟨false, [.rf .own [.sl .shr [.leaf], .leaf, .leaf]], [.ref [.lst 0 [], .int .i64 0, .int .u64 0]]⟩⟩]
def f80_s_l01DrawPlain.A : RAlt (Nat × Nat × List T × Int × Int) := .one ⟨[⟨false, [.leaf], [.flt .f32 0]⟩], [some ⟨false, [.rf .own [.sl .shr [.leaf], .leaf, .leaf]], [.ref [.lst 0 [], .int .i64 0, .int .u64 0]]⟩]⟩ sg_flii
def f80_s_l01DrawPlain.F (n : Nat) (v : Nat × List T × Int × Int) := f80_s_l01DrawPlain n v.1 v.2.1 v.2.2.1 v.2.2.2
noncomputable def f80_s_l01DrawPlain.O (n : Nat) : Orc := orcOf (E := E) [f73_s_l00Srcpick.w, f72_s_l00Srcone.w] [] n
theorem f80_s_l01DrawPlain.ok : ∀ n v x, f80_s_l01DrawPlain.F n v = some x → evalFn E n 80 (flAs f80_s_l01DrawPlain.P (sg_lii.pk v)) = some (f80_s_l01DrawPlain.A.enc x) :=
  fn_pure (modes := (fdAt 80).ms) (outs := (fdAt 80).os) (results := (fdAt 80).rs) f80_s_l01DrawPlain.O (c := c80) (keep := keepAt 80) (by kernel_rfl) (fun n => orcOf_cf _ _ n) (fun n => lpOk_of (bs := []) (by kernel_rfl) .nil) (fun _ => rfl) (fun _ _ => by kernel_rfl)
noncomputable def f80_s_l01DrawPlain.w : FnW E := fnW 80 f80_s_l01DrawPlain.P sg_lii f80_s_l01DrawPlain.A f80_s_l01DrawPlain.F f80_s_l01DrawPlain.ok

def f24_s_R8Plain.l0 (n : Nat) : Nat → Int → Nat → List T → Int → Int → Nat → List T → Int → Option (Nat × List T)
  | 0, _, _, _, _, _, _, _, _ => none
  | m + 1, i1, n2, l3, i4, i5, n6, l7, i8 =>
    br (decide (i8 < i1)) (
     bd (f80_s_l01DrawPlain n n2 l3 i4 i5) fun r9 =>
     let x10 : Nat := r9.1
     let n11 : Nat := r9.2.1
     let l12 : List T := r9.2.2.1
     let i13 : Int := r9.2.2.2.1
     let i14 : Int := r9.2.2.2.2
     gd (Nat.ble (n6 + 1) 2147483648) (
     let n15 : Nat := (n6 + 1)
     let l16 : List T := (l7 ++ (setN (reps 1 [(T.flt FloatKind.f32 0)]) 0 [(T.flt FloatKind.f32 x10)]))
     f24_s_R8Plain.l0 n m i1 n11 l12 i13 i14 n15 l16 (IntKind.i64.wrap (i8 + (1 : Int))))) (
     some (n6, l7))
def f24_s_R8Plain : Nat → Nat → List T → Int → Option (Nat × List T)
  | 0, _, _, _ => none
  | n + 1, n1, l2, i3 =>
    bd (f71_s_l00From n n1 l2) fun r4 =>
    let n5 : Nat := r4.1
    let l6 : List T := r4.2.1
    let i7 : Int := r4.2.2.1
    let i8 : Int := r4.2.2.2
    bd (f24_s_R8Plain.l0 n n i3 n5 l6 i7 i8 0 (reps 0 [(T.flt FloatKind.f32 0)]) (0 : Int)) fun r9 =>
    let n10 : Nat := r9.1
    let l11 : List T := r9.2
    some (n10, l11)
def sg_li : Sig (Nat × List T × Int) where
  pk := fun v => [.lst v.1 v.2.1, .int v.2.2]
  up := fun ls => match ls with
    | [.lst a0 a1, .int a2] => some (a0, a1, a2)
    | _ => none
  ok := by
    intro ls v h
    split at h
    · cases h; rfl
    · cases h

def sg_iliili : Sig (Int × Nat × List T × Int × Int × Nat × List T × Int) where
  pk := fun v => [.int v.1, .lst v.2.1 v.2.2.1, .int v.2.2.2.1, .int v.2.2.2.2.1, .lst v.2.2.2.2.2.1 v.2.2.2.2.2.2.1, .int v.2.2.2.2.2.2.2]
  up := fun ls => match ls with
    | [.int a0, .lst a1 a2, .int a3, .int a4, .lst a5 a6, .int a7] => some (a0, a1, a2, a3, a4, a5, a6, a7)
    | _ => none
  ok := by
    intro ls v h
    split at h
    · cases h; rfl
    · cases h

def f24_s_R8Plain.l0.P : AS := ⟨[(1, .val false [.leaf] [.int .i64 0] [] 0), (5, .box [.sl .shr [.leaf], .leaf, .leaf] [.lst 0 [], .int .i64 0, .int .u64 0] [] 0), (6, .val false [.sl .own [.leaf]] [.lst 0 []] [] 0), (7, .val false [.leaf] [.int .i64 0] [] 0)], 0⟩
def f24_s_R8Plain.l0.A : Alt (Nat × List T) := .one (.exit 0) ⟨[(6, .val false [.sl .own [.leaf]] [.lst 0 []] [] 0)], 0⟩ sg_l
def f24_s_R8Plain.l0.F (n m : Nat) (v : Int × Nat × List T × Int × Int × Nat × List T × Int) := f24_s_R8Plain.l0 n m v.1 v.2.1 v.2.2.1 v.2.2.2.1 v.2.2.2.2.1 v.2.2.2.2.2.1 v.2.2.2.2.2.2.1 v.2.2.2.2.2.2.2
def f24_s_R8Plain.l0.W (n : Nat) : LpW := .of 64 f24_s_R8Plain.l0.P sg_iliili f24_s_R8Plain.l0.A (f24_s_R8Plain.l0.F n n)
def f24_s_R8Plain.P : List Arg := [⟨.val, ⟨false, [.sl .shr [.leaf]], [.lst 0 []]⟩⟩, ⟨.val, ⟨false, [.leaf], [.int .i64 0]⟩⟩]
def f24_s_R8Plain.A : RAlt (Nat × List T) := .one ⟨[⟨false, [.sl .own [.leaf]], [.lst 0 []]⟩], [none, none]⟩ sg_l
def f24_s_R8Plain.F (n : Nat) (v : Nat × List T × Int) := f24_s_R8Plain n v.1 v.2.1 v.2.2
noncomputable def f24_s_R8Plain.O (n : Nat) : Orc := orcOf (E := E) [f71_s_l00From.w, f80_s_l01DrawPlain.w] [f24_s_R8Plain.l0.W n] n
theorem f24_s_R8Plain.l0.ok (n : Nat) : LpOk (f24_s_R8Plain.O n) E (evalFn E n) n (keepAt 24) (.loop (loopAt c24 0)) :=
  lp_pure f24_s_R8Plain.l0.P sg_iliili f24_s_R8Plain.l0.A (f24_s_R8Plain.l0.F n) (orcOf_cf _ _ n) (lpOk_of (bs := []) (by kernel_rfl) .nil) (fun _ => rfl) (fun _ _ => by kernel_rfl) (fun _ _ _ => by kernel_rfl)
theorem f24_s_R8Plain.ok : ∀ n v x, f24_s_R8Plain.F n v = some x → evalFn E n 24 (flAs f24_s_R8Plain.P (sg_li.pk v)) = some (f24_s_R8Plain.A.enc x) :=
  fn_pure (modes := (fdAt 24).ms) (outs := (fdAt 24).os) (results := (fdAt 24).rs) f24_s_R8Plain.O (c := c24) (keep := keepAt 24) (by kernel_rfl) (fun n => orcOf_cf _ _ n) (fun n => lpOk_of (bs := [loopAt c24 0]) (by kernel_rfl) (.cons (f24_s_R8Plain.l0.ok n) .nil)) (fun _ => rfl) (fun _ _ => by kernel_rfl)
noncomputable def f24_s_R8Plain.w : FnW E := fnW 24 f24_s_R8Plain.P sg_li f24_s_R8Plain.A f24_s_R8Plain.F f24_s_R8Plain.ok

def f4_l_FnPitch.l0 (n : Nat) : Nat → Nat → List T → Int → Nat → List T → Nat → List T → Int → Option (Nat × List T × Int × Nat × List T)
  | 0, _, _, _, _, _, _, _, _ => none
  | m + 1, n1, l2, i3, n4, l5, n6, l7, i8 =>
    br (decide (i8 < (4 : Int))) (
     gd (Nat.ble (n6 + n4) 2147483648) (
     let n9 : Nat := (n6 + n4)
     let l10 : List T := (l7 ++ l5)
     f4_l_FnPitch.l0 n m n1 l2 i3 n4 l5 n9 l10 (IntKind.i64.wrap (i8 + (1 : Int))))) (
     some (n1, l2, i3, n6, l7))
def f81_i_size : Nat → Int → Option (Int)
  | 0, _ => none
  | n + 1, i1 =>
    some i1
def f81_i_size.P : List Arg := [⟨.val, ⟨false, [.leaf], [.int .i64 0]⟩⟩]
def f81_i_size.A : RAlt (Int) := .one ⟨[⟨false, [.leaf], [.int .i64 0]⟩], [none]⟩ sg_i
def f81_i_size.F (n : Nat) (v : Int) := f81_i_size n v
noncomputable def f81_i_size.O (n : Nat) : Orc := orcOf (E := E) [] [] n
theorem f81_i_size.ok : ∀ n v x, f81_i_size.F n v = some x → evalFn E n 81 (flAs f81_i_size.P (sg_i.pk v)) = some (f81_i_size.A.enc x) :=
  fn_pure (modes := (fdAt 81).ms) (outs := (fdAt 81).os) (results := (fdAt 81).rs) f81_i_size.O (c := c81) (keep := keepAt 81) (by kernel_rfl) (fun n => orcOf_cf _ _ n) (fun n => lpOk_of (bs := []) (by kernel_rfl) .nil) (fun _ => rfl) (fun _ _ => by kernel_rfl)
noncomputable def f81_i_size.w : FnW E := fnW 81 f81_i_size.P sg_i f81_i_size.A f81_i_size.F f81_i_size.ok

def f82_i_areSamples : Nat → Nat → List T → Option (Bool)
  | 0, _, _ => none
  | n + 1, n1, l2 =>
    some (decide (((n1 : Nat) : Int) ≤ (256 : Int)))
def f82_i_areSamples.P : List Arg := [⟨.val, ⟨false, [.sl .shr [.leaf]], [.lst 0 []]⟩⟩]
def f82_i_areSamples.A : RAlt (Bool) := .one ⟨[⟨false, [.leaf], [.bool false]⟩], [none]⟩ sg_b
def f82_i_areSamples.F (n : Nat) (v : Nat × List T) := f82_i_areSamples n v.1 v.2
noncomputable def f82_i_areSamples.O (n : Nat) : Orc := orcOf (E := E) [] [] n
theorem f82_i_areSamples.ok : ∀ n v x, f82_i_areSamples.F n v = some x → evalFn E n 82 (flAs f82_i_areSamples.P (sg_l.pk v)) = some (f82_i_areSamples.A.enc x) :=
  fn_pure (modes := (fdAt 82).ms) (outs := (fdAt 82).os) (results := (fdAt 82).rs) f82_i_areSamples.O (c := c82) (keep := keepAt 82) (by kernel_rfl) (fun n => orcOf_cf _ _ n) (fun n => lpOk_of (bs := []) (by kernel_rfl) .nil) (fun _ => rfl) (fun _ _ => by kernel_rfl)
noncomputable def f82_i_areSamples.w : FnW E := fnW 82 f82_i_areSamples.P sg_l f82_i_areSamples.A f82_i_areSamples.F f82_i_areSamples.ok

def f83_i_within : Nat → Int → Int → Int → Option (Bool)
  | 0, _, _, _ => none
  | n + 1, i1, i2, i3 =>
    br (decide (i2 ≤ i1)) (
     some (decide (i1 ≤ i3))) (
     some false)
def sg_iii : Sig (Int × Int × Int) where
  pk := fun v => [.int v.1, .int v.2.1, .int v.2.2]
  up := fun ls => match ls with
    | [.int a0, .int a1, .int a2] => some (a0, a1, a2)
    | _ => none
  ok := by
    intro ls v h
    split at h
    · cases h; rfl
    · cases h

def f83_i_within.P : List Arg := [⟨.val, ⟨false, [.leaf], [.int .i64 0]⟩⟩, ⟨.val, ⟨false, [.leaf], [.int .i64 0]⟩⟩, ⟨.val, ⟨false, [.leaf], [.int .i64 0]⟩⟩]
def f83_i_within.A : RAlt (Bool) := .one ⟨[⟨false, [.leaf], [.bool false]⟩], [none, none, none]⟩ sg_b
def f83_i_within.F (n : Nat) (v : Int × Int × Int) := f83_i_within n v.1 v.2.1 v.2.2
noncomputable def f83_i_within.O (n : Nat) : Orc := orcOf (E := E) [] [] n
theorem f83_i_within.ok : ∀ n v x, f83_i_within.F n v = some x → evalFn E n 83 (flAs f83_i_within.P (sg_iii.pk v)) = some (f83_i_within.A.enc x) :=
  fn_pure (modes := (fdAt 83).ms) (outs := (fdAt 83).os) (results := (fdAt 83).rs) f83_i_within.O (c := c83) (keep := keepAt 83) (by kernel_rfl) (fun n => orcOf_cf _ _ n) (fun n => lpOk_of (bs := []) (by kernel_rfl) .nil) (fun _ => rfl) (fun _ _ => by kernel_rfl)
noncomputable def f83_i_within.w : FnW E := fnW 83 f83_i_within.P sg_iii f83_i_within.A f83_i_within.F f83_i_within.ok

def f84_i_lagPower.l0 (n : Nat) : Nat → Nat → List T → Int → Int → Nat → List T → Int → Option (Nat × List T)
  | 0, _, _, _, _, _, _, _ => none
  | m + 1, n1, l2, i3, i4, n5, l6, i7 =>
    br (decide (i7 < i4)) (
     gd ((decide (((0 : Int) ≤ i7) ∧ (i7 < ((n1 : Nat) : Int)))) && (okAt [(CK.flt FloatKind.f32)] l2 (Int.toNat i7))) (
     gd ((decide (((0 : Int) ≤ (IntKind.i64.wrap (i7 + i3))) ∧ ((IntKind.i64.wrap (i7 + i3)) < ((n1 : Nat) : Int)))) && (okAt [(CK.flt FloatKind.f32)] l2 (Int.toNat (IntKind.i64.wrap (i7 + i3))))) (
     gd (Nat.ble (n5 + 1) 2147483648) (
     let n8 : Nat := (n5 + 1)
     let l9 : List T := (l6 ++ (setN (reps 1 [(T.flt FloatKind.f32 0)]) 0 [(T.flt FloatKind.f32 (fsub FloatKind.f32 (fAt l2 (Int.toNat i7)) (fAt l2 (Int.toNat (IntKind.i64.wrap (i7 + i3))))))]))
     f84_i_lagPower.l0 n m n1 l2 i3 i4 n8 l9 (IntKind.i64.wrap (i7 + (1 : Int))))))) (
     some (n5, l6))
def f85_i_dot.l0 (n : Nat) : Nat → Nat → List T → Nat → List T → Nat → Int → Int → Option (Nat)
  | 0, _, _, _, _, _, _, _ => none
  | m + 1, n1, l2, n3, l4, x5, i6, i7 =>
    br (decide (i7 < i6)) (
     gd ((decide (((0 : Int) ≤ i7) ∧ (i7 < ((n1 : Nat) : Int)))) && (okAt [(CK.flt FloatKind.f32)] l2 (Int.toNat i7))) (
     gd ((decide (((0 : Int) ≤ i7) ∧ (i7 < ((n3 : Nat) : Int)))) && (okAt [(CK.flt FloatKind.f32)] l4 (Int.toNat i7))) (
     let x8 : Nat := (fadd FloatKind.f32 x5 (fmul FloatKind.f32 (fAt l2 (Int.toNat i7)) (fAt l4 (Int.toNat i7))))
     f85_i_dot.l0 n m n1 l2 n3 l4 x8 i6 (IntKind.i64.wrap (i7 + (1 : Int)))))) (
     some x5)
def f85_i_dot : Nat → Nat → List T → Nat → List T → Option (Nat)
  | 0, _, _, _, _ => none
  | n + 1, n1, l2, n3, l4 =>
    bd (f85_i_dot.l0 n n n1 l2 n3 l4 0 ((n1 : Nat) : Int) (0 : Int)) fun r5 =>
    let x6 : Nat := r5
    some x6
def sg_f : Sig (Nat) where
  pk := fun v => [.flt v]
  up := fun ls => match ls with
    | [.flt a0] => some a0
    | _ => none
  ok := by
    intro ls v h
    split at h
    · cases h; rfl
    · cases h

def sg_llfii : Sig (Nat × List T × Nat × List T × Nat × Int × Int) where
  pk := fun v => [.lst v.1 v.2.1, .lst v.2.2.1 v.2.2.2.1, .flt v.2.2.2.2.1, .int v.2.2.2.2.2.1, .int v.2.2.2.2.2.2]
  up := fun ls => match ls with
    | [.lst a0 a1, .lst a2 a3, .flt a4, .int a5, .int a6] => some (a0, a1, a2, a3, a4, a5, a6)
    | _ => none
  ok := by
    intro ls v h
    split at h
    · cases h; rfl
    · cases h

def f85_i_dot.l0.P : AS := ⟨[(0, .val false [.sl .shr [.leaf]] [.lst 0 []] [] 0), (1, .val false [.sl .shr [.leaf]] [.lst 0 []] [] 0), (5, .val false [.leaf] [.flt .f32 0] [] 0), (8, .val false [.leaf] [.int .i64 0] [] 0), (9, .val false [.leaf] [.int .i64 0] [] 0)], 0⟩
def f85_i_dot.l0.A : Alt (Nat) := .one (.exit 0) ⟨[(5, .val false [.leaf] [.flt .f32 0] [] 0)], 0⟩ sg_f
def f85_i_dot.l0.F (n m : Nat) (v : Nat × List T × Nat × List T × Nat × Int × Int) := f85_i_dot.l0 n m v.1 v.2.1 v.2.2.1 v.2.2.2.1 v.2.2.2.2.1 v.2.2.2.2.2.1 v.2.2.2.2.2.2
def f85_i_dot.l0.W (n : Nat) : LpW := .of 48 f85_i_dot.l0.P sg_llfii f85_i_dot.l0.A (f85_i_dot.l0.F n n)
def f85_i_dot.P : List Arg := [⟨.val, ⟨false, [.sl .shr [.leaf]], [.lst 0 []]⟩⟩, ⟨.val, ⟨false, [.sl .shr [.leaf]], [.lst 0 []]⟩⟩]
def f85_i_dot.A : RAlt (Nat) := .one ⟨[⟨false, [.leaf], [.flt .f32 0]⟩], [none, none]⟩ sg_f
def f85_i_dot.F (n : Nat) (v : Nat × List T × Nat × List T) := f85_i_dot n v.1 v.2.1 v.2.2.1 v.2.2.2
noncomputable def f85_i_dot.O (n : Nat) : Orc := orcOf (E := E) [] [f85_i_dot.l0.W n] n
theorem f85_i_dot.l0.ok (n : Nat) : LpOk (f85_i_dot.O n) E (evalFn E n) n (keepAt 85) (.loop (loopAt c85 0)) :=
  lp_pure f85_i_dot.l0.P sg_llfii f85_i_dot.l0.A (f85_i_dot.l0.F n) (orcOf_cf _ _ n) (lpOk_of (bs := []) (by kernel_rfl) .nil) (fun _ => rfl) (fun _ _ => by kernel_rfl) (fun _ _ _ => by kernel_rfl)
theorem f85_i_dot.ok : ∀ n v x, f85_i_dot.F n v = some x → evalFn E n 85 (flAs f85_i_dot.P (sg_ll.pk v)) = some (f85_i_dot.A.enc x) :=
  fn_pure (modes := (fdAt 85).ms) (outs := (fdAt 85).os) (results := (fdAt 85).rs) f85_i_dot.O (c := c85) (keep := keepAt 85) (by kernel_rfl) (fun n => orcOf_cf _ _ n) (fun n => lpOk_of (bs := [loopAt c85 0]) (by kernel_rfl) (.cons (f85_i_dot.l0.ok n) .nil)) (fun _ => rfl) (fun _ _ => by kernel_rfl)
noncomputable def f85_i_dot.w : FnW E := fnW 85 f85_i_dot.P sg_ll f85_i_dot.A f85_i_dot.F f85_i_dot.ok

def f84_i_lagPower : Nat → Nat → List T → Int → Int → Option (Nat)
  | 0, _, _, _, _ => none
  | n + 1, n1, l2, i3, i4 =>
    bd (f84_i_lagPower.l0 n n n1 l2 i3 i4 0 [] (0 : Int)) fun r5 =>
    let n6 : Nat := r5.1
    let l7 : List T := r5.2
    bd (f85_i_dot n n6 l7 n6 l7) fun r8 =>
    let x9 : Nat := r8
    some x9
def sg_liili : Sig (Nat × List T × Int × Int × Nat × List T × Int) where
  pk := fun v => [.lst v.1 v.2.1, .int v.2.2.1, .int v.2.2.2.1, .lst v.2.2.2.2.1 v.2.2.2.2.2.1, .int v.2.2.2.2.2.2]
  up := fun ls => match ls with
    | [.lst a0 a1, .int a2, .int a3, .lst a4 a5, .int a6] => some (a0, a1, a2, a3, a4, a5, a6)
    | _ => none
  ok := by
    intro ls v h
    split at h
    · cases h; rfl
    · cases h

def f84_i_lagPower.l0.P : AS := ⟨[(0, .val false [.sl .shr [.leaf]] [.lst 0 []] [] 0), (1, .val false [.leaf] [.int .i64 0] [] 0), (2, .val false [.leaf] [.int .i64 0] [] 0), (7, .val false [.sl .own [.leaf]] [.lst 0 []] [] 0), (8, .val false [.leaf] [.int .i64 0] [] 0)], 0⟩
def f84_i_lagPower.l0.A : Alt (Nat × List T) := .one (.exit 0) ⟨[(7, .val false [.sl .own [.leaf]] [.lst 0 []] [] 0)], 0⟩ sg_l
def f84_i_lagPower.l0.F (n m : Nat) (v : Nat × List T × Int × Int × Nat × List T × Int) := f84_i_lagPower.l0 n m v.1 v.2.1 v.2.2.1 v.2.2.2.1 v.2.2.2.2.1 v.2.2.2.2.2.1 v.2.2.2.2.2.2
def f84_i_lagPower.l0.W (n : Nat) : LpW := .of 48 f84_i_lagPower.l0.P sg_liili f84_i_lagPower.l0.A (f84_i_lagPower.l0.F n n)
def f84_i_lagPower.P : List Arg := [⟨.val, ⟨false, [.sl .shr [.leaf]], [.lst 0 []]⟩⟩, ⟨.val, ⟨false, [.leaf], [.int .i64 0]⟩⟩, ⟨.val, ⟨false, [.leaf], [.int .i64 0]⟩⟩]
def f84_i_lagPower.A : RAlt (Nat) := .one ⟨[⟨false, [.leaf], [.flt .f32 0]⟩], [none, none, none]⟩ sg_f
def f84_i_lagPower.F (n : Nat) (v : Nat × List T × Int × Int) := f84_i_lagPower n v.1 v.2.1 v.2.2.1 v.2.2.2
noncomputable def f84_i_lagPower.O (n : Nat) : Orc := orcOf (E := E) [f85_i_dot.w] [f84_i_lagPower.l0.W n] n
theorem f84_i_lagPower.l0.ok (n : Nat) : LpOk (f84_i_lagPower.O n) E (evalFn E n) n (keepAt 84) (.loop (loopAt c84 0)) :=
  lp_pure f84_i_lagPower.l0.P sg_liili f84_i_lagPower.l0.A (f84_i_lagPower.l0.F n) (orcOf_cf _ _ n) (lpOk_of (bs := []) (by kernel_rfl) .nil) (fun _ => rfl) (fun _ _ => by kernel_rfl) (fun _ _ _ => by kernel_rfl)
theorem f84_i_lagPower.ok : ∀ n v x, f84_i_lagPower.F n v = some x → evalFn E n 84 (flAs f84_i_lagPower.P (sg_lii.pk v)) = some (f84_i_lagPower.A.enc x) :=
  fn_pure (modes := (fdAt 84).ms) (outs := (fdAt 84).os) (results := (fdAt 84).rs) f84_i_lagPower.O (c := c84) (keep := keepAt 84) (by kernel_rfl) (fun n => orcOf_cf _ _ n) (fun n => lpOk_of (bs := [loopAt c84 0]) (by kernel_rfl) (.cons (f84_i_lagPower.l0.ok n) .nil)) (fun _ => rfl) (fun _ _ => by kernel_rfl)
noncomputable def f84_i_lagPower.w : FnW E := fnW 84 f84_i_lagPower.P sg_lii f84_i_lagPower.A f84_i_lagPower.F f84_i_lagPower.ok

def f25_i_PitchOf.l0 (n : Nat) : Nat → Nat → List T → Int → Int → Int → Nat → Int → Option (Int × Nat)
  | 0, _, _, _, _, _, _, _ => none
  | m + 1, n1, l2, i3, i4, i5, x6, i7 =>
    br (decide (i7 ≤ i3)) (
     bd (f84_i_lagPower n n1 l2 i7 (IntKind.i64.wrap (i4 - i3))) fun r8 =>
     let x9 : Nat := r8
     br (feq FloatKind.f32 x9 x9) (
      br (decide (i5 < (0 : Int))) (
       f25_i_PitchOf.l0 n m n1 l2 i3 i4 i7 x9 (IntKind.i64.wrap (i7 + (1 : Int)))) (
       br (flt FloatKind.f32 x9 x6) (
        f25_i_PitchOf.l0 n m n1 l2 i3 i4 i7 x9 (IntKind.i64.wrap (i7 + (1 : Int)))) (
        f25_i_PitchOf.l0 n m n1 l2 i3 i4 i5 x6 (IntKind.i64.wrap (i7 + (1 : Int)))))) (
      f25_i_PitchOf.l0 n m n1 l2 i3 i4 i5 x6 (IntKind.i64.wrap (i7 + (1 : Int))))) (
     some (i5, x6))
def f25_i_PitchOf : Nat → Nat → List T → Int → Int → Option (Int × Nat × Bool)
  | 0, _, _, _, _ => none
  | n + 1, n1, l2, i3, i4 =>
    bd (f81_i_size n ((n1 : Nat) : Int)) fun r5 =>
    let i6 : Int := r5
    bd (f82_i_areSamples n n1 l2) fun r7 =>
    let b8 : Bool := r7
    br (!b8) (
     some ((0 : Int), 0, false)) (
     bd (f83_i_within n i3 (1 : Int) (IntKind.i64.wrap (i6 - (1 : Int)))) fun r9 =>
     let b10 : Bool := r9
     br (!b10) (
      some ((0 : Int), 0, false)) (
      bd (f83_i_within n i4 i3 (IntKind.i64.wrap (i6 - (1 : Int)))) fun r11 =>
      let b12 : Bool := r11
      br (!b12) (
       some ((0 : Int), 0, false)) (
       bd (f25_i_PitchOf.l0 n n n1 l2 i4 i6 (-1 : Int) 0 i3) fun r13 =>
       let i14 : Int := r13.1
       let x15 : Nat := r13.2
       br (decide (i14 < (0 : Int))) (
        some ((0 : Int), 0, false)) (
        some (i14, x15, true)))))
def sg_ifb : Sig (Int × Nat × Bool) where
  pk := fun v => [.int v.1, .flt v.2.1, .bool v.2.2]
  up := fun ls => match ls with
    | [.int a0, .flt a1, .bool a2] => some (a0, a1, a2)
    | _ => none
  ok := by
    intro ls v h
    split at h
    · cases h; rfl
    · cases h

def sg_liiifi : Sig (Nat × List T × Int × Int × Int × Nat × Int) where
  pk := fun v => [.lst v.1 v.2.1, .int v.2.2.1, .int v.2.2.2.1, .int v.2.2.2.2.1, .flt v.2.2.2.2.2.1, .int v.2.2.2.2.2.2]
  up := fun ls => match ls with
    | [.lst a0 a1, .int a2, .int a3, .int a4, .flt a5, .int a6] => some (a0, a1, a2, a3, a4, a5, a6)
    | _ => none
  ok := by
    intro ls v h
    split at h
    · cases h; rfl
    · cases h

def sg_if : Sig (Int × Nat) where
  pk := fun v => [.int v.1, .flt v.2]
  up := fun ls => match ls with
    | [.int a0, .flt a1] => some (a0, a1)
    | _ => none
  ok := by
    intro ls v h
    split at h
    · cases h; rfl
    · cases h

def f25_i_PitchOf.l0.P : AS := ⟨[(0, .val false [.sl .shr [.leaf]] [.lst 0 []] [] 0), (2, .val false [.leaf] [.int .i64 0] [] 0), (9, .val false [.leaf] [.int .i64 0] [] 0), (10, .val false [.leaf] [.int .i64 0] [] 0), (11, .val false [.leaf] [.flt .f32 0] [] 0), (12, .val false [.leaf] [.int .i64 0] [] 0)], 0⟩
def f25_i_PitchOf.l0.A : Alt (Int × Nat) := .one (.exit 0) ⟨[(10, .val false [.leaf] [.int .i64 0] [] 0), (11, .val false [.leaf] [.flt .f32 0] [] 0)], 0⟩ sg_if
def f25_i_PitchOf.l0.F (n m : Nat) (v : Nat × List T × Int × Int × Int × Nat × Int) := f25_i_PitchOf.l0 n m v.1 v.2.1 v.2.2.1 v.2.2.2.1 v.2.2.2.2.1 v.2.2.2.2.2.1 v.2.2.2.2.2.2
def f25_i_PitchOf.l0.W (n : Nat) : LpW := .of 96 f25_i_PitchOf.l0.P sg_liiifi f25_i_PitchOf.l0.A (f25_i_PitchOf.l0.F n n)
def f25_i_PitchOf.P : List Arg := [⟨.val, ⟨false, [.sl .shr [.leaf]], [.lst 0 []]⟩⟩, ⟨.val, ⟨false, [.leaf], [.int .i64 0]⟩⟩, ⟨.val, ⟨false, [.leaf], [.int .i64 0]⟩⟩]
def f25_i_PitchOf.A : RAlt (Int × Nat × Bool) := .one ⟨[⟨false, [.leaf], [.int .i64 0]⟩, ⟨false, [.leaf], [.flt .f32 0]⟩, ⟨false, [.leaf], [.bool false]⟩], [none, none, none]⟩ sg_ifb
def f25_i_PitchOf.F (n : Nat) (v : Nat × List T × Int × Int) := f25_i_PitchOf n v.1 v.2.1 v.2.2.1 v.2.2.2
noncomputable def f25_i_PitchOf.O (n : Nat) : Orc := orcOf (E := E) [f81_i_size.w, f82_i_areSamples.w, f83_i_within.w, f84_i_lagPower.w] [f25_i_PitchOf.l0.W n] n
theorem f25_i_PitchOf.l0.ok (n : Nat) : LpOk (f25_i_PitchOf.O n) E (evalFn E n) n (keepAt 25) (.loop (loopAt c25 0)) :=
  lp_pure f25_i_PitchOf.l0.P sg_liiifi f25_i_PitchOf.l0.A (f25_i_PitchOf.l0.F n) (orcOf_cf _ _ n) (lpOk_of (bs := []) (by kernel_rfl) .nil) (fun _ => rfl) (fun _ _ => by kernel_rfl) (fun _ _ _ => by kernel_rfl)
theorem f25_i_PitchOf.ok : ∀ n v x, f25_i_PitchOf.F n v = some x → evalFn E n 25 (flAs f25_i_PitchOf.P (sg_lii.pk v)) = some (f25_i_PitchOf.A.enc x) :=
  fn_pure (modes := (fdAt 25).ms) (outs := (fdAt 25).os) (results := (fdAt 25).rs) f25_i_PitchOf.O (c := c25) (keep := keepAt 25) (by kernel_rfl) (fun n => orcOf_cf _ _ n) (fun n => lpOk_of (bs := [loopAt c25 0]) (by kernel_rfl) (.cons (f25_i_PitchOf.l0.ok n) .nil)) (fun _ => rfl) (fun _ _ => by kernel_rfl)
noncomputable def f25_i_PitchOf.w : FnW E := fnW 25 f25_i_PitchOf.P sg_lii f25_i_PitchOf.A f25_i_PitchOf.F f25_i_PitchOf.ok

def f26_i_LagPower : Nat → Nat → List T → Int → Int → Option (Nat × Bool)
  | 0, _, _, _, _ => none
  | n + 1, n1, l2, i3, i4 =>
    bd (f81_i_size n ((n1 : Nat) : Int)) fun r5 =>
    let i6 : Int := r5
    bd (f82_i_areSamples n n1 l2) fun r7 =>
    let b8 : Bool := r7
    br (!b8) (
     some (0, false)) (
     bd (f83_i_within n i3 (0 : Int) i6) fun r9 =>
     let b10 : Bool := r9
     br (!b10) (
      some (0, false)) (
      bd (f83_i_within n i4 (1 : Int) (IntKind.i64.wrap (i6 - i3))) fun r11 =>
      let b12 : Bool := r11
      br (!b12) (
       some (0, false)) (
       bd (f84_i_lagPower n n1 l2 i3 i4) fun r13 =>
       let x14 : Nat := r13
       some (x14, true))))
def sg_fb : Sig (Nat × Bool) where
  pk := fun v => [.flt v.1, .bool v.2]
  up := fun ls => match ls with
    | [.flt a0, .bool a1] => some (a0, a1)
    | _ => none
  ok := by
    intro ls v h
    split at h
    · cases h; rfl
    · cases h

def f26_i_LagPower.P : List Arg := [⟨.val, ⟨false, [.sl .shr [.leaf]], [.lst 0 []]⟩⟩, ⟨.val, ⟨false, [.leaf], [.int .i64 0]⟩⟩, ⟨.val, ⟨false, [.leaf], [.int .i64 0]⟩⟩]
def f26_i_LagPower.A : RAlt (Nat × Bool) := .one ⟨[⟨false, [.leaf], [.flt .f32 0]⟩, ⟨false, [.leaf], [.bool false]⟩], [none, none, none]⟩ sg_fb
def f26_i_LagPower.F (n : Nat) (v : Nat × List T × Int × Int) := f26_i_LagPower n v.1 v.2.1 v.2.2.1 v.2.2.2
noncomputable def f26_i_LagPower.O (n : Nat) : Orc := orcOf (E := E) [f81_i_size.w, f82_i_areSamples.w, f83_i_within.w, f84_i_lagPower.w] [] n
theorem f26_i_LagPower.ok : ∀ n v x, f26_i_LagPower.F n v = some x → evalFn E n 26 (flAs f26_i_LagPower.P (sg_lii.pk v)) = some (f26_i_LagPower.A.enc x) :=
  fn_pure (modes := (fdAt 26).ms) (outs := (fdAt 26).os) (results := (fdAt 26).rs) f26_i_LagPower.O (c := c26) (keep := keepAt 26) (by kernel_rfl) (fun n => orcOf_cf _ _ n) (fun n => lpOk_of (bs := []) (by kernel_rfl) .nil) (fun _ => rfl) (fun _ _ => by kernel_rfl)
noncomputable def f26_i_LagPower.w : FnW E := fnW 26 f26_i_LagPower.P sg_lii f26_i_LagPower.A f26_i_LagPower.F f26_i_LagPower.ok

def f4_l_FnPitch.l1 (n : Nat) : Nat → Nat → List T → Int → Int → Int → Int → Option ((Bool) ⊕ (Nat × List T × Int))
  | 0, _, _, _, _, _, _ => none
  | m + 1, n1, l2, i3, i4, i5, i6 =>
    br (decide (i6 < i5)) (
     bd (f26_i_LagPower n n1 l2 i6 (IntKind.i64.wrap (i3 - i4))) fun r7 =>
     let x8 : Nat := r7.1
     let b9 : Bool := r7.2
     br (!b9) (
      some (Sum.inl false)) (
      br (!(fgt FloatKind.f32 x8 0)) (
       some (Sum.inl false)) (
       f4_l_FnPitch.l1 n m n1 l2 i3 i4 i5 (IntKind.i64.wrap (i6 + (1 : Int)))))) (
     some (Sum.inr (n1, l2, i3)))
def f27_i_CrossingsOf.l0 (n : Nat) : Nat → Nat → List T → Int → Int → Option (Int)
  | 0, _, _, _, _ => none
  | m + 1, n1, l2, i3, i4 =>
    br (decide (i4 < ((n1 : Nat) : Int))) (
     gd ((decide (((0 : Int) ≤ (IntKind.i64.wrap (i4 - (1 : Int)))) ∧ ((IntKind.i64.wrap (i4 - (1 : Int))) < ((n1 : Nat) : Int)))) && (okAt [(CK.flt FloatKind.f32)] l2 (Int.toNat (IntKind.i64.wrap (i4 - (1 : Int)))))) (
     gd ((decide (((0 : Int) ≤ i4) ∧ (i4 < ((n1 : Nat) : Int)))) && (okAt [(CK.flt FloatKind.f32)] l2 (Int.toNat i4))) (
     let x5 : Nat := (fAt l2 (Int.toNat (IntKind.i64.wrap (i4 - (1 : Int)))))
     let x6 : Nat := (fAt l2 (Int.toNat i4))
     br (flt FloatKind.f32 x6 0) (
      br (fge FloatKind.f32 x5 0) (
       let i7 : Int := (IntKind.i64.wrap (i3 + (1 : Int)))
       f27_i_CrossingsOf.l0 n m n1 l2 i7 (IntKind.i64.wrap (i4 + (1 : Int)))) (
       br (fge FloatKind.f32 x6 0) (
        br (flt FloatKind.f32 x5 0) (
         let i8 : Int := (IntKind.i64.wrap (i3 + (1 : Int)))
         f27_i_CrossingsOf.l0 n m n1 l2 i8 (IntKind.i64.wrap (i4 + (1 : Int)))) (
         f27_i_CrossingsOf.l0 n m n1 l2 i3 (IntKind.i64.wrap (i4 + (1 : Int))))) (
        f27_i_CrossingsOf.l0 n m n1 l2 i3 (IntKind.i64.wrap (i4 + (1 : Int)))))) (
      br (fge FloatKind.f32 x6 0) (
       br (flt FloatKind.f32 x5 0) (
        let i9 : Int := (IntKind.i64.wrap (i3 + (1 : Int)))
        f27_i_CrossingsOf.l0 n m n1 l2 i9 (IntKind.i64.wrap (i4 + (1 : Int)))) (
        f27_i_CrossingsOf.l0 n m n1 l2 i3 (IntKind.i64.wrap (i4 + (1 : Int))))) (
       f27_i_CrossingsOf.l0 n m n1 l2 i3 (IntKind.i64.wrap (i4 + (1 : Int)))))))) (
     some i3)
def f27_i_CrossingsOf : Nat → Nat → List T → Option (Int × Bool)
  | 0, _, _ => none
  | n + 1, n1, l2 =>
    bd (f82_i_areSamples n n1 l2) fun r3 =>
    let b4 : Bool := r3
    br (!b4) (
     some ((0 : Int), false)) (
     bd (f27_i_CrossingsOf.l0 n n n1 l2 (0 : Int) (1 : Int)) fun r5 =>
     let i6 : Int := r5
     some (i6, true))
def sg_ib : Sig (Int × Bool) where
  pk := fun v => [.int v.1, .bool v.2]
  up := fun ls => match ls with
    | [.int a0, .bool a1] => some (a0, a1)
    | _ => none
  ok := by
    intro ls v h
    split at h
    · cases h; rfl
    · cases h

def f27_i_CrossingsOf.l0.P : AS := ⟨[(0, .val false [.sl .shr [.leaf]] [.lst 0 []] [] 0), (4, .val false [.leaf] [.int .i64 0] [] 0), (5, .val false [.leaf] [.int .i64 0] [] 0)], 0⟩
def f27_i_CrossingsOf.l0.A : Alt (Int) := .one (.exit 0) ⟨[(4, .val false [.leaf] [.int .i64 0] [] 0)], 0⟩ sg_i
def f27_i_CrossingsOf.l0.F (n m : Nat) (v : Nat × List T × Int × Int) := f27_i_CrossingsOf.l0 n m v.1 v.2.1 v.2.2.1 v.2.2.2
def f27_i_CrossingsOf.l0.W (n : Nat) : LpW := .of 80 f27_i_CrossingsOf.l0.P sg_lii f27_i_CrossingsOf.l0.A (f27_i_CrossingsOf.l0.F n n)
def f27_i_CrossingsOf.P : List Arg := [⟨.val, ⟨false, [.sl .shr [.leaf]], [.lst 0 []]⟩⟩]
def f27_i_CrossingsOf.A : RAlt (Int × Bool) := .one ⟨[⟨false, [.leaf], [.int .i64 0]⟩, ⟨false, [.leaf], [.bool false]⟩], [none]⟩ sg_ib
def f27_i_CrossingsOf.F (n : Nat) (v : Nat × List T) := f27_i_CrossingsOf n v.1 v.2
noncomputable def f27_i_CrossingsOf.O (n : Nat) : Orc := orcOf (E := E) [f82_i_areSamples.w] [f27_i_CrossingsOf.l0.W n] n
theorem f27_i_CrossingsOf.l0.ok (n : Nat) : LpOk (f27_i_CrossingsOf.O n) E (evalFn E n) n (keepAt 27) (.loop (loopAt c27 0)) :=
  lp_pure f27_i_CrossingsOf.l0.P sg_lii f27_i_CrossingsOf.l0.A (f27_i_CrossingsOf.l0.F n) (orcOf_cf _ _ n) (lpOk_of (bs := []) (by kernel_rfl) .nil) (fun _ => rfl) (fun _ _ => by kernel_rfl) (fun _ _ _ => by kernel_rfl)
theorem f27_i_CrossingsOf.ok : ∀ n v x, f27_i_CrossingsOf.F n v = some x → evalFn E n 27 (flAs f27_i_CrossingsOf.P (sg_l.pk v)) = some (f27_i_CrossingsOf.A.enc x) :=
  fn_pure (modes := (fdAt 27).ms) (outs := (fdAt 27).os) (results := (fdAt 27).rs) f27_i_CrossingsOf.O (c := c27) (keep := keepAt 27) (by kernel_rfl) (fun n => orcOf_cf _ _ n) (fun n => lpOk_of (bs := [loopAt c27 0]) (by kernel_rfl) (.cons (f27_i_CrossingsOf.l0.ok n) .nil)) (fun _ => rfl) (fun _ _ => by kernel_rfl)
noncomputable def f27_i_CrossingsOf.w : FnW E := fnW 27 f27_i_CrossingsOf.P sg_l f27_i_CrossingsOf.A f27_i_CrossingsOf.F f27_i_CrossingsOf.ok

def f28_l_r8Turned.l0 (n : Nat) : Nat → Nat → List T → Nat → List T → Int → Option (Nat × List T)
  | 0, _, _, _, _, _ => none
  | m + 1, n1, l2, n3, l4, i5 =>
    br (decide (i5 ≥ (0 : Int))) (
     gd ((decide (((0 : Int) ≤ i5) ∧ (i5 < ((n1 : Nat) : Int)))) && (okAt [(CK.flt FloatKind.f32)] l2 (Int.toNat i5))) (
     gd (Nat.ble (n3 + 1) 2147483648) (
     let n6 : Nat := (n3 + 1)
     let l7 : List T := (l4 ++ (setN (reps 1 [(T.flt FloatKind.f32 0)]) 0 [(T.flt FloatKind.f32 (fAt l2 (Int.toNat i5)))]))
     f28_l_r8Turned.l0 n m n1 l2 n6 l7 (IntKind.i64.wrap (i5 - (1 : Int)))))) (
     some (n3, l4))
def f28_l_r8Turned : Nat → Nat → List T → Option (Nat × List T)
  | 0, _, _ => none
  | n + 1, n1, l2 =>
    bd (f28_l_r8Turned.l0 n n n1 l2 0 (reps 0 [(T.flt FloatKind.f32 0)]) (IntKind.i64.wrap (((n1 : Nat) : Int) - (1 : Int)))) fun r3 =>
    let n4 : Nat := r3.1
    let l5 : List T := r3.2
    some (n4, l5)
def sg_lli : Sig (Nat × List T × Nat × List T × Int) where
  pk := fun v => [.lst v.1 v.2.1, .lst v.2.2.1 v.2.2.2.1, .int v.2.2.2.2]
  up := fun ls => match ls with
    | [.lst a0 a1, .lst a2 a3, .int a4] => some (a0, a1, a2, a3, a4)
    | _ => none
  ok := by
    intro ls v h
    split at h
    · cases h; rfl
    · cases h

def f28_l_r8Turned.l0.P : AS := ⟨[(0, .val false [.sl .shr [.leaf]] [.lst 0 []] [] 0), (3, .val false [.sl .own [.leaf]] [.lst 0 []] [] 0), (4, .val false [.leaf] [.int .i64 0] [] 0)], 0⟩
def f28_l_r8Turned.l0.A : Alt (Nat × List T) := .one (.exit 0) ⟨[(3, .val false [.sl .own [.leaf]] [.lst 0 []] [] 0)], 0⟩ sg_l
def f28_l_r8Turned.l0.F (n m : Nat) (v : Nat × List T × Nat × List T × Int) := f28_l_r8Turned.l0 n m v.1 v.2.1 v.2.2.1 v.2.2.2.1 v.2.2.2.2
def f28_l_r8Turned.l0.W (n : Nat) : LpW := .of 48 f28_l_r8Turned.l0.P sg_lli f28_l_r8Turned.l0.A (f28_l_r8Turned.l0.F n n)
def f28_l_r8Turned.P : List Arg := [⟨.val, ⟨false, [.sl .shr [.leaf]], [.lst 0 []]⟩⟩]
def f28_l_r8Turned.A : RAlt (Nat × List T) := .one ⟨[⟨false, [.sl .own [.leaf]], [.lst 0 []]⟩], [none]⟩ sg_l
def f28_l_r8Turned.F (n : Nat) (v : Nat × List T) := f28_l_r8Turned n v.1 v.2
noncomputable def f28_l_r8Turned.O (n : Nat) : Orc := orcOf (E := E) [] [f28_l_r8Turned.l0.W n] n
theorem f28_l_r8Turned.l0.ok (n : Nat) : LpOk (f28_l_r8Turned.O n) E (evalFn E n) n (keepAt 28) (.loop (loopAt c28 0)) :=
  lp_pure f28_l_r8Turned.l0.P sg_lli f28_l_r8Turned.l0.A (f28_l_r8Turned.l0.F n) (orcOf_cf _ _ n) (lpOk_of (bs := []) (by kernel_rfl) .nil) (fun _ => rfl) (fun _ _ => by kernel_rfl) (fun _ _ _ => by kernel_rfl)
theorem f28_l_r8Turned.ok : ∀ n v x, f28_l_r8Turned.F n v = some x → evalFn E n 28 (flAs f28_l_r8Turned.P (sg_l.pk v)) = some (f28_l_r8Turned.A.enc x) :=
  fn_pure (modes := (fdAt 28).ms) (outs := (fdAt 28).os) (results := (fdAt 28).rs) f28_l_r8Turned.O (c := c28) (keep := keepAt 28) (by kernel_rfl) (fun n => orcOf_cf _ _ n) (fun n => lpOk_of (bs := [loopAt c28 0]) (by kernel_rfl) (.cons (f28_l_r8Turned.l0.ok n) .nil)) (fun _ => rfl) (fun _ _ => by kernel_rfl)
noncomputable def f28_l_r8Turned.w : FnW E := fnW 28 f28_l_r8Turned.P sg_l f28_l_r8Turned.A f28_l_r8Turned.F f28_l_r8Turned.ok

def f4_l_FnPitch : Nat → Nat → List T → Nat → List T → Option (Bool)
  | 0, _, _, _, _ => none
  | n + 1, n1, l2, n3, l4 =>
    bd (f22_l_r8Long n n1 l2 n3 l4) fun r5 =>
    let b6 : Bool := r5
    br b6 (
     some true) (
     bd (f23_l_r8At n n1 l2 (40 : Int) (6 : Int)) fun r7 =>
     let i8 : Int := r7
     let i9 : Int := (IntKind.i64.wrap ((1 : Int) + i8))
     bd (f24_s_R8Plain n n3 l4 i9) fun r10 =>
     let n11 : Nat := r10.1
     let l12 : List T := r10.2
     bd (f4_l_FnPitch.l0 n n n1 l2 i9 n11 l12 0 (reps 0 [(T.flt FloatKind.f32 0)]) (0 : Int)) fun r13 =>
     let n14 : Nat := r13.1
     let l15 : List T := r13.2.1
     let i16 : Int := r13.2.2.1
     let n17 : Nat := r13.2.2.2.1
     let l18 : List T := r13.2.2.2.2
     let i19 : Int := ((n17 : Nat) : Int)
     bd (f23_l_r8At n n14 l15 (41 : Int) i16) fun r20 =>
     let i21 : Int := r20
     let i22 : Int := (IntKind.i64.wrap (i16 + i21))
     bd (f25_i_PitchOf n n17 l18 (1 : Int) i22) fun r23 =>
     let i24 : Int := r23.1
     let x25 : Nat := r23.2.1
     let b26 : Bool := r23.2.2
     bd (f26_i_LagPower n n17 l18 i16 (IntKind.i64.wrap (i19 - i22))) fun r27 =>
     let x28 : Nat := r27.1
     let b29 : Bool := r27.2
     br (!b26) (
      some false) (
      br (!b29) (
       some false) (
       br (fne FloatKind.f32 x28 0) (
        some false) (
        br (fne FloatKind.f32 x25 0) (
         some false) (
         br (decide (i24 < (1 : Int))) (
          some false) (
          br (decide (i24 > i16)) (
           some false) (
           bd (f4_l_FnPitch.l1 n n n17 l18 i19 i22 i24 (1 : Int)) fun r30 =>
           sm r30 (fun u31 =>
            let b32 : Bool := u31
            some b32) (fun u33 =>
            let n34 : Nat := u33.1
            let l35 : List T := u33.2.1
            let i36 : Int := u33.2.2
            bd (f27_i_CrossingsOf n n34 l35) fun r37 =>
            let i38 : Int := r37.1
            let b39 : Bool := r37.2
            bd (f28_l_r8Turned n n34 l35) fun r40 =>
            let n41 : Nat := r40.1
            let l42 : List T := r40.2
            bd (f27_i_CrossingsOf n n41 l42) fun r43 =>
            let i44 : Int := r43.1
            let b45 : Bool := r43.2
            br b39 (
             br b45 (
              br (i38 == i44) (
               br (decide (i38 ≥ (0 : Int))) (
                some (decide (i38 < i36))) (
                some false)) (
               some false)) (
              some false)) (
             some false)))))))))
def sg_lilli : Sig (Nat × List T × Int × Nat × List T × Nat × List T × Int) where
  pk := fun v => [.lst v.1 v.2.1, .int v.2.2.1, .lst v.2.2.2.1 v.2.2.2.2.1, .lst v.2.2.2.2.2.1 v.2.2.2.2.2.2.1, .int v.2.2.2.2.2.2.2]
  up := fun ls => match ls with
    | [.lst a0 a1, .int a2, .lst a3 a4, .lst a5 a6, .int a7] => some (a0, a1, a2, a3, a4, a5, a6, a7)
    | _ => none
  ok := by
    intro ls v h
    split at h
    · cases h; rfl
    · cases h

def sg_lil : Sig (Nat × List T × Int × Nat × List T) where
  pk := fun v => [.lst v.1 v.2.1, .int v.2.2.1, .lst v.2.2.2.1 v.2.2.2.2]
  up := fun ls => match ls with
    | [.lst a0 a1, .int a2, .lst a3 a4] => some (a0, a1, a2, a3, a4)
    | _ => none
  ok := by
    intro ls v h
    split at h
    · cases h; rfl
    · cases h

def sg_liiii : Sig (Nat × List T × Int × Int × Int × Int) where
  pk := fun v => [.lst v.1 v.2.1, .int v.2.2.1, .int v.2.2.2.1, .int v.2.2.2.2.1, .int v.2.2.2.2.2]
  up := fun ls => match ls with
    | [.lst a0 a1, .int a2, .int a3, .int a4, .int a5] => some (a0, a1, a2, a3, a4, a5)
    | _ => none
  ok := by
    intro ls v h
    split at h
    · cases h; rfl
    · cases h

def f4_l_FnPitch.l0.P : AS := ⟨[(0, .val false [.sl .shr [.leaf]] [.lst 0 []] [] 0), (5, .val false [.leaf] [.int .i64 0] [] 0), (6, .val false [.sl .own [.leaf]] [.lst 0 []] [] 0), (7, .val false [.sl .own [.leaf]] [.lst 0 []] [] 0), (8, .val false [.leaf] [.int .i64 0] [] 0)], 0⟩
def f4_l_FnPitch.l0.A : Alt (Nat × List T × Int × Nat × List T) := .one (.exit 0) ⟨[(0, .val false [.sl .shr [.leaf]] [.lst 0 []] [] 0), (5, .val false [.leaf] [.int .i64 0] [] 0), (7, .val false [.sl .own [.leaf]] [.lst 0 []] [] 0)], 0⟩ sg_lil
def f4_l_FnPitch.l0.F (n m : Nat) (v : Nat × List T × Int × Nat × List T × Nat × List T × Int) := f4_l_FnPitch.l0 n m v.1 v.2.1 v.2.2.1 v.2.2.2.1 v.2.2.2.2.1 v.2.2.2.2.2.1 v.2.2.2.2.2.2.1 v.2.2.2.2.2.2.2
def f4_l_FnPitch.l0.W (n : Nat) : LpW := .of 112 f4_l_FnPitch.l0.P sg_lilli f4_l_FnPitch.l0.A (f4_l_FnPitch.l0.F n n)
def f4_l_FnPitch.l1.P : AS := ⟨[(7, .val false [.sl .own [.leaf]] [.lst 0 []] [] 0), (9, .val false [.leaf] [.int .i64 0] [] 0), (10, .val false [.leaf] [.int .i64 0] [] 0), (11, .val false [.leaf] [.int .i64 0] [] 0), (16, .val false [.leaf] [.int .i64 0] [] 0)], 0⟩
def f4_l_FnPitch.l1.A : Alt ((Bool) ⊕ (Nat × List T × Int)) := .or (.one .ret ⟨[(4, .val false [.leaf] [.bool false] [] 0), (7, .dead), (9, .dead)], 0⟩ sg_b) (.one (.exit 2) ⟨[(4, .dead), (7, .val false [.sl .own [.leaf]] [.lst 0 []] [] 0), (9, .val false [.leaf] [.int .i64 0] [] 0)], 0⟩ sg_li)
def f4_l_FnPitch.l1.F (n m : Nat) (v : Nat × List T × Int × Int × Int × Int) := f4_l_FnPitch.l1 n m v.1 v.2.1 v.2.2.1 v.2.2.2.1 v.2.2.2.2.1 v.2.2.2.2.2
def f4_l_FnPitch.l1.W (n : Nat) : LpW := .of 272 f4_l_FnPitch.l1.P sg_liiii f4_l_FnPitch.l1.A (f4_l_FnPitch.l1.F n n)
def f4_l_FnPitch.P : List Arg := [⟨.val, ⟨false, [.sl .shr [.leaf]], [.lst 0 []]⟩⟩, ⟨.val, ⟨false, [.sl .shr [.leaf]], [.lst 0 []]⟩⟩]
def f4_l_FnPitch.A : RAlt (Bool) := .one ⟨[⟨false, [.leaf], [.bool false]⟩], [none, none]⟩ sg_b
def f4_l_FnPitch.F (n : Nat) (v : Nat × List T × Nat × List T) := f4_l_FnPitch n v.1 v.2.1 v.2.2.1 v.2.2.2
noncomputable def f4_l_FnPitch.O (n : Nat) : Orc := orcOf (E := E) [f22_l_r8Long.w, f23_l_r8At.w, f24_s_R8Plain.w, f25_i_PitchOf.w, f26_i_LagPower.w, f27_i_CrossingsOf.w, f28_l_r8Turned.w] [f4_l_FnPitch.l0.W n, f4_l_FnPitch.l1.W n] n
theorem f4_l_FnPitch.l0.ok (n : Nat) : LpOk (f4_l_FnPitch.O n) E (evalFn E n) n (keepAt 4) (.loop (loopAt c4 0)) :=
  lp_pure f4_l_FnPitch.l0.P sg_lilli f4_l_FnPitch.l0.A (f4_l_FnPitch.l0.F n) (orcOf_cf _ _ n) (lpOk_of (bs := []) (by kernel_rfl) .nil) (fun _ => rfl) (fun _ _ => by kernel_rfl) (fun _ _ _ => by kernel_rfl)
theorem f4_l_FnPitch.l1.ok (n : Nat) : LpOk (f4_l_FnPitch.O n) E (evalFn E n) n (keepAt 4) (.loop (loopAt c4 1)) :=
  lp_pure f4_l_FnPitch.l1.P sg_liiii f4_l_FnPitch.l1.A (f4_l_FnPitch.l1.F n) (orcOf_cf _ _ n) (lpOk_of (bs := []) (by kernel_rfl) .nil) (fun _ => rfl) (fun _ _ => by kernel_rfl) (fun _ _ _ => by kernel_rfl)
theorem f4_l_FnPitch.ok : ∀ n v x, f4_l_FnPitch.F n v = some x → evalFn E n 4 (flAs f4_l_FnPitch.P (sg_ll.pk v)) = some (f4_l_FnPitch.A.enc x) :=
  fn_pure (modes := (fdAt 4).ms) (outs := (fdAt 4).os) (results := (fdAt 4).rs) f4_l_FnPitch.O (c := c4) (keep := keepAt 4) (by kernel_rfl) (fun n => orcOf_cf _ _ n) (fun n => lpOk_of (bs := [loopAt c4 0, loopAt c4 1]) (by kernel_rfl) (.cons (f4_l_FnPitch.l0.ok n) (.cons (f4_l_FnPitch.l1.ok n) .nil))) (fun _ => rfl) (fun _ _ => by kernel_rfl)
noncomputable def f4_l_FnPitch.w : FnW E := fnW 4 f4_l_FnPitch.P sg_ll f4_l_FnPitch.A f4_l_FnPitch.F f4_l_FnPitch.ok
end Go.Proofs.Ythgenpcoelihiaa.D
end
section
/- FnPitch, in plain Lean. -/
namespace Go.Proofs.Ythgenpcoelihiaa.D
open Go Go.Desk
set_option linter.unusedVariables false
theorem s_from (n l : Nat) (c : List T) : f71_s_l00From (n + 1) l c = some (l, c, 0, 0) := by rw [f71_s_l00From]
theorem s_next (n : Nat) {bs : List Int} (hb : Bytes bs) {a : Int} (h0 : 0 ≤ a) (h1 : a ≤ 1125899906842624) (sd : Int) :
    ∃ r sd', (0 ≤ r ∧ r ≤ 255) ∧ f111_s_l00Srcnext (n + 1) bs.length (its .u8 bs) a sd = some (r, bs.length, its .u8 bs, a + 1, sd') := by
  rw [f111_s_l00Srcnext]
  rw [show IntKind.i64.wrap (a + 1) = a + 1 by rw [wrap64] <;> omega]
  cases h : decide (a < (bs.length : Int))
  · simp only [br_f]
    cases decide (a + 1 ≤ (bs.length : Int))
    · exact ⟨_, _, and255 _, rfl⟩
    · exact ⟨0, _, by omega, rfl⟩
  · simp only [decide_eq_true_eq] at h
    obtain ⟨i, rfl⟩ := Int.eq_ofNat_of_zero_le h0
    have hi : i < bs.length := by omega
    have hr := hb (bs[i]) (List.getElem_mem _)
    simp only [br_t, in_dec hi, Int.toNat_natCast, okAt_its hi, Bool.and_self, gd_t, iAt_its]
    rw [show bs.getD i 0 = bs[i] by simp [List.getD, hi], show IntKind.i64.wrap bs[i] = bs[i] by rw [wrap64] <;> omega]
    cases decide ((i : Int) + 1 ≤ (bs.length : Int))
    · exact ⟨_, _, and255 _, rfl⟩
    · exact ⟨_, _, hr, rfl⟩
theorem s_pick (n : Nat) {bs : List Int} (hb : Bytes bs) {a : Int} (h0 : 0 ≤ a) (h1 : a ≤ 1125899906842622) (sd k : Int) :
    ∃ r a' sd', (0 ≤ r ∧ (1 < k → r < k) ∧ (k ≤ 1 → r = 0)) ∧ (a ≤ a' ∧ a' ≤ a + 2) ∧ f73_s_l00Srcpick (n + 2) bs.length (its .u8 bs) a sd k = some (r, bs.length, its .u8 bs, a', sd') := by
  rw [f73_s_l00Srcpick]
  by_cases hk : k ≤ 1
  · rw [decide_eq_true hk]; exact ⟨0, a, sd, by omega, by omega, rfl⟩
  rw [decide_eq_false hk]
  obtain ⟨r, s1, hr, e1⟩ := s_next n hb h0 (by omega) sd
  simp only [br_f, e1, bd_s]
  have hk0 : (!decide (k = 0)) = true := by simp; omega
  by_cases hk2 : k > 200
  · rw [decide_eq_true hk2]
    obtain ⟨r', s2, hr', e2⟩ := s_next n hb (a := a + 1) (by omega) (by omega) s1
    simp only [br_t, e2, bd_s, hk0, gd_t]
    rw [show IntKind.i64.wrap (r * 256) = r * 256 by rw [wrap64] <;> omega, show IntKind.i64.wrap (r * 256 + r') = r * 256 + r' by rw [wrap64] <;> omega]
    refine ⟨_, _, _, ?_, ?_, rfl⟩
    · rw [Int.tmod_eq_emod_of_nonneg (by omega)]
      have := Int.emod_nonneg (r * 256 + r') (show k ≠ 0 by omega)
      have := Int.emod_lt_of_pos (r * 256 + r') (show 0 < k by omega)
      omega
    · omega
  · rw [decide_eq_false hk2]
    simp only [br_f, hk0, gd_t]
    refine ⟨_, _, _, ?_, ?_, rfl⟩
    · rw [Int.tmod_eq_emod_of_nonneg (by omega)]
      have := Int.emod_nonneg r (show k ≠ 0 by omega)
      have := Int.emod_lt_of_pos r (show 0 < k by omega)
      omega
    · omega
theorem s_one (n : Nat) {bs : List Int} (hb : Bytes bs) {a : Int} (h0 : 0 ≤ a) (h1 : a ≤ 1125899906842622) (sd k : Int) :
    ∃ r a' sd', (a ≤ a' ∧ a' ≤ a + 2) ∧ f72_s_l00Srcone (n + 3) bs.length (its .u8 bs) a sd k = some (r, bs.length, its .u8 bs, a', sd') := by
  obtain ⟨r, a', s', -, ha, e⟩ := s_pick n hb h0 h1 sd k
  rw [f72_s_l00Srcone, e]
  exact ⟨_, _, _, ha, rfl⟩
theorem s_plain (n : Nat) {bs : List Int} (hb : Bytes bs) {a : Int} (h0 : 0 ≤ a) (h1 : a ≤ 1125899906842620) (sd : Int) :
    ∃ x a' sd', Plain x ∧ (a ≤ a' ∧ a' ≤ a + 4) ∧ f80_s_l01DrawPlain (n + 4) bs.length (its .u8 bs) a sd = some (x, bs.length, its .u8 bs, a', sd') := by
  obtain ⟨r, a1, s1, hr, ha, e⟩ := s_pick (n + 1) hb h0 (by omega) sd 129
  obtain ⟨b, a2, s2, ha2, e2⟩ := s_one n hb (a := a1) (by omega) (by omega) s1 4
  rw [f80_s_l01DrawPlain, e]
  simp only [bd_s, e2]
  rw [show IntKind.i64.wrap (r - 64) = r - 64 by rw [wrap64] <;> omega]
  cases b
  · exact ⟨_, a2, s2, ⟨r - 64, by omega, .inr rfl⟩, by omega, rfl⟩
  · exact ⟨_, a2, s2, ⟨r - 64, by omega, .inl rfl⟩, by omega, rfl⟩
theorem s_r8plain_loop (n : Nat) {bs : List Int} (hb : Bytes bs) (k : Nat) : ∀ (j m : Nat) (a sd : Int) (acc : List Nat), 0 ≤ a → a + 4 * (j : Int) ≤ 1125899906842000 → k = acc.length + j → k ≤ 1000 → j < m → (∀ x ∈ acc, Plain x) →
    ∃ ys, ys.length = k ∧ (∀ x ∈ ys, Plain x) ∧
      (∃ u, f24_s_R8Plain.l0 (n + 4) m (k : Int) bs.length (its .u8 bs) a sd acc.length (fls .f32 acc) (acc.length : Int) = some u ∧ u = (ys.length, fls .f32 ys)) := by
  intro j
  induction j with
  | zero =>
    intro m a sd acc h0 h1 hl hk hm hw
    obtain ⟨m, rfl⟩ : ∃ k, m = k + 1 := ⟨m - 1, by omega⟩
    rw [f24_s_R8Plain.l0, decide_eq_false (show ¬ ((acc.length : Int) < (k : Int)) by omega)]
    exact ⟨acc, by omega, hw, _, rfl, rfl⟩
  | succ j ih =>
    intro m a sd acc h0 h1 hl hk hm hw
    obtain ⟨m, rfl⟩ : ∃ k, m = k + 1 := ⟨m - 1, by omega⟩
    obtain ⟨x, a1, s1, hx, ha, e⟩ := s_plain n hb h0 (by omega) sd
    rw [f24_s_R8Plain.l0, decide_eq_true (show ((acc.length : Int) < (k : Int)) by omega)]
    simp only [br_t, e, bd_s, push_ok (show acc.length < 2147483648 by omega), gd_t, push_fls]
    rw [wrap_len (z := x) (by omega), show acc.length + 1 = (acc ++ [x]).length by simp]
    exact ih m a1 s1 (acc ++ [x]) (by omega) (by omega) (by simp; omega) hk (by omega) (by
        intro y hy; simp only [List.mem_append, List.mem_singleton] at hy; rcases hy with hy | rfl
        · exact hw y hy
        · exact hx)
theorem s_r8plain (n : Nat) {bs : List Int} (hb : Bytes bs) (k : Nat) (hk : k ≤ 1000) (hn : k < n) : ∃ xs, xs.length = k ∧ (∀ x ∈ xs, Plain x) ∧ f24_s_R8Plain (n + 5) bs.length (its .u8 bs) (k : Int) = some (xs.length, fls .f32 xs) := by
  obtain ⟨ys, hy, hw, u, e, rfl⟩ := s_r8plain_loop n hb k k (n + 4) 0 0 [] (by omega) (by omega) (by simp) hk (by omega) (by simp)
  rw [f24_s_R8Plain, s_from]
  have e : f24_s_R8Plain.l0 (n + 4) (n + 4) (k : Int) bs.length (its .u8 bs) 0 0 0 (reps 0 [(T.flt FloatKind.f32 0)]) 0 = some (ys.length, fls .f32 ys) := e
  refine ⟨ys, hy, hw, ?_⟩
  simp only [bd_s, e]

theorem l_long (n : Nat) (bs cs : List Int) : f22_l_r8Long (n + 1) bs.length (its .u8 bs) cs.length (its .u8 cs) = some (decide (48 < bs.length ∨ 48 < cs.length)) := by
  rw [f22_l_r8Long]
  by_cases h : 48 < bs.length
  · rw [decide_eq_true (show (bs.length : Int) > 48 by omega), decide_eq_true (Or.inl h)]; rfl
  · rw [decide_eq_false (show ¬ (bs.length : Int) > 48 by omega), br_f]
    congr 1
    simp [h]; omega
theorem l_at (n : Nat) {bs : List Int} (hb : Bytes bs) {i k : Int} (hi : 0 ≤ i) (hk : 1 ≤ k) : ∃ r, (0 ≤ r ∧ r < k) ∧ f23_l_r8At (n + 1) bs.length (its .u8 bs) i k = some r := by
  rw [f23_l_r8At]
  by_cases h : k ≤ 1
  · rw [decide_eq_true h]; exact ⟨0, by omega, rfl⟩
  rw [decide_eq_false h]
  by_cases h2 : i ≥ (bs.length : Int)
  · rw [decide_eq_true h2]; exact ⟨0, by omega, rfl⟩
  rw [decide_eq_false h2]
  obtain ⟨i, rfl⟩ := Int.eq_ofNat_of_zero_le hi
  have hi : i < bs.length := by omega
  have hr := hb (bs[i]) (List.getElem_mem _)
  have hk0 : (!decide (k = 0)) = true := by simp; omega
  simp only [br_f, in_dec hi, Int.toNat_natCast, okAt_its hi, Bool.and_self, gd_t, iAt_its, hk0]
  rw [show bs.getD i 0 = bs[i] by simp [List.getD, hi], show IntKind.i64.wrap bs[i] = bs[i] by rw [wrap64] <;> omega]
  refine ⟨_, ?_, rfl⟩
  rw [Int.tmod_eq_emod_of_nonneg (by omega)]
  have := Int.emod_nonneg bs[i] (show k ≠ 0 by omega)
  have := Int.emod_lt_of_pos bs[i] (show 0 < k by omega)
  omega

theorem i_few (n k : Nat) (l : List T) : f82_i_areSamples (n + 1) k l = some (decide ((k : Int) ≤ 256)) := by rw [f82_i_areSamples]

theorem i_in (n : Nat) (a b c : Int) : f83_i_within (n + 1) a b c = some (decide (b ≤ a ∧ a ≤ c)) := by
  rw [f83_i_within]
  by_cases h : b ≤ a <;> simp [br, h]



theorem i_sized (n : Nat) (x : Int) : f81_i_size (n + 1) x = some x := by rw [f81_i_size]

theorem i_dot_loop (n : Nat) (N : Nat) (cs : List T) : ∀ (zs ys p q : List Nat) (s m : Nat), ys.length = zs.length → q.length = p.length → p.length + zs.length < 1048576 → zs.length < m →
    f85_i_dot.l0 n m (p ++ zs).length (fls .f32 (p ++ zs)) (q ++ ys).length (fls .f32 (q ++ ys)) s ((p ++ zs).length : Int) (p.length : Int) = some (dotM s zs ys) := by
  intro zs
  induction zs with
  | nil =>
    intro ys p q s m _ _ _ hm
    obtain ⟨m, rfl⟩ : ∃ k, m = k + 1 := ⟨m - 1, by omega⟩
    rw [f85_i_dot.l0, lt_end]
    simp [br_f, dotM]
  | cons z zs ih =>
    intro ys p q s m hl hq hp hm
    obtain ⟨m, rfl⟩ : ∃ k, m = k + 1 := ⟨m - 1, by omega⟩
    cases ys with
    | nil => simp at hl
    | cons y ys =>
      have e1 : okAt [.flt .f32] (fls .f32 (q ++ y :: ys)) p.length = true := by rw [← hq]; exact okAt_mid
      have e2 : fAt (fls .f32 (q ++ y :: ys)) p.length = y := by rw [← hq]; exact fAt_mid
      have e3 : decide ((0 : Int) ≤ (p.length : Int) ∧ (p.length : Int) < ((q ++ y :: ys).length : Int)) = true := by rw [← hq]; exact in_mid
      rw [f85_i_dot.l0, lt_mid, in_mid, toNat_len, okAt_mid, fAt_mid, e1, e2, e3]
      have := ih ys (p ++ [z]) (q ++ [y]) (fadd .f32 s (fmul .f32 z y)) m (by simpa using hl) (by simp [hq]) (by simp at hp ⊢; omega) (by simp at hm; omega)
      simp only [br_t, gd_t, Bool.and_self, wrap_len (z := z) (show p.length < 4611686018427387904 by simp at hp; omega)]
      simpa [dotM] using this
theorem i_dotted (n : Nat) (xs ys : List Nat) (hl : ys.length = xs.length) (hx : xs.length < 1048576) (hn : xs.length < n) : f85_i_dot (n + 1) xs.length (fls .f32 xs) ys.length (fls .f32 ys) = some (dotM 0 xs ys) := by
  rw [f85_i_dot]
  have e := i_dot_loop n xs.length (fls .f32 xs) xs ys [] [] 0 n hl rfl (by simpa using hx) (by omega)
  have e : f85_i_dot.l0 n n xs.length (fls .f32 xs) ys.length (fls .f32 ys) 0 (xs.length : Int) 0 = some (dotM 0 xs ys) := e
  rw [e]; rfl

/-- what falls behind a lag -/
def lagD (xs : List Nat) (lag : Nat) (i : Nat) : Nat := fsub .f32 (xs.getD i 0) (xs.getD (i + lag) 0)
def lagL (xs : List Nat) (lag w : Nat) : List Nat := (List.range w).map (lagD xs lag)
def lagM (xs : List Nat) (lag w : Nat) : Nat := dotM 0 (lagL xs lag w) (lagL xs lag w)
theorem i_lag_loop (n : Nat) (xs : List Nat) (hx : xs.length ≤ 1048576) (lag w : Nat) (hw : lag + w ≤ xs.length) : ∀ (j m a : Nat), a + j = w → j < m →
    f84_i_lagPower.l0 n m xs.length (fls .f32 xs) (lag : Int) (w : Int) (lagL xs lag a).length (fls .f32 (lagL xs lag a)) (a : Int) = some ((lagL xs lag w).length, fls .f32 (lagL xs lag w)) := by
  intro j
  induction j with
  | zero =>
    intro m a hi hm
    obtain ⟨m, rfl⟩ : ∃ k, m = k + 1 := ⟨m - 1, by omega⟩
    rw [f84_i_lagPower.l0, nlt_dec (by omega)]
    obtain rfl : a = w := by omega
    rfl
  | succ j ih =>
    intro m a hi hm
    obtain ⟨m, rfl⟩ : ∃ k, m = k + 1 := ⟨m - 1, by omega⟩
    have hlt : a < xs.length := by omega
    have hlt' : a + lag < xs.length := by omega
    have hwr : IntKind.i64.wrap ((a : Int) + (lag : Int)) = ((a + lag : Nat) : Int) := by rw [wrap64] <;> omega
    have hla : (lagL xs lag a).length = a := by simp [lagL]
    rw [f84_i_lagPower.l0, hwr, lt_dec (show a < w by omega), in_dec hlt, in_dec hlt', Int.toNat_natCast, Int.toNat_natCast, okAt_fls hlt, okAt_fls hlt', fAt_fls, fAt_fls, wrap_succ (by omega), push_ok (show (lagL xs lag a).length < 2147483648 by omega), push_fls, push_len (z := fsub .f32 (xs.getD a 0) (xs.getD (a + lag) 0))]
    simp only [gd_t, br_t, Bool.and_self]
    have e : lagL xs lag a ++ [fsub .f32 (xs.getD a 0) (xs.getD (a + lag) 0)] = lagL xs lag (a + 1) := by
      unfold lagL; rw [List.range_succ, List.map_append]; rfl
    rw [e]
    exact ih m (a + 1) (by omega) (by omega)
theorem i_lags (n : Nat) (xs : List Nat) (hx : xs.length < 1048576) (lag w : Nat) (hw : lag + w ≤ xs.length) (hn : xs.length < n) : f84_i_lagPower (n + 2) xs.length (fls .f32 xs) (lag : Int) (w : Int) = some (lagM xs lag w) := by
  have e := i_lag_loop (n + 1) xs (by omega) lag w hw w (n + 1) 0 (by omega) (by omega)
  have e : f84_i_lagPower.l0 (n + 1) (n + 1) xs.length (fls .f32 xs) (lag : Int) (w : Int) 0 [] 0 = some ((lagL xs lag w).length, fls .f32 (lagL xs lag w)) := e
  have hla : (lagL xs lag w).length = w := by simp [lagL]
  rw [f84_i_lagPower, e]
  simp only [bd_s, i_dotted n (lagL xs lag w) (lagL xs lag w) rfl (by omega) (by omega), lagM]
theorem i_lagpower (n : Nat) (xs : List Nat) (hx : xs.length ≤ 256) (lag w : Nat) (h1 : 1 ≤ w) (hw : lag + w ≤ xs.length) (hn : xs.length < n) : f26_i_LagPower (n + 3) xs.length (fls .f32 xs) (lag : Int) (w : Int) = some (lagM xs lag w, true) := by
  rw [f26_i_LagPower, i_sized]
  simp only [i_few, i_in, bd_s, decide_eq_true (show (xs.length : Int) ≤ 256 by omega), br_not, br_t, decide_eq_true (show (0 : Int) ≤ (lag : Int) ∧ (lag : Int) ≤ (xs.length : Int) by omega), show IntKind.i64.wrap ((xs.length : Int) - (lag : Int)) = (xs.length : Int) - (lag : Int) by rw [wrap64] <;> omega,
    decide_eq_true (show (1 : Int) ≤ (w : Int) ∧ (w : Int) ≤ (xs.length : Int) - (lag : Int) by omega), i_lags n xs (by omega) lag w hw hn]
theorem l_turned_loop (n : Nat) (xs : List Nat) (hx : xs.length ≤ 1048576) : ∀ (k m : Nat), k ≤ xs.length → k < m →
    f28_l_r8Turned.l0 n m xs.length (fls .f32 xs) (xs.drop k).reverse.length (fls .f32 (xs.drop k).reverse) ((k : Int) - 1) = some (xs.reverse.length, fls .f32 xs.reverse) := by
  intro k
  induction k with
  | zero =>
    intro m _ hm
    obtain ⟨m, rfl⟩ : ∃ k, m = k + 1 := ⟨m - 1, by omega⟩
    rw [f28_l_r8Turned.l0]; rfl
  | succ k ih =>
    intro m hk hm
    obtain ⟨m, rfl⟩ : ∃ k, m = k + 1 := ⟨m - 1, by omega⟩
    have hlt : k < xs.length := by omega
    have hd : xs.drop k = xs.getD k 0 :: xs.drop (k + 1) := by
      rw [List.drop_eq_getElem_cons hlt]; simp [List.getD, hlt]
    have e : (xs.drop (k + 1)).reverse ++ [xs.getD k 0] = (xs.drop k).reverse := by rw [hd, List.reverse_cons]
    rw [f28_l_r8Turned.l0, show ((k + 1 : Nat) : Int) - 1 = (k : Int) by omega, decide_eq_true (show (k : Int) ≥ 0 by omega), in_dec hlt, Int.toNat_natCast, okAt_fls hlt, fAt_fls, push_ok (by simp; omega), push_fls, push_len (z := xs.getD k 0), e, show IntKind.i64.wrap ((k : Int) - 1) = (k : Int) - 1 by rw [wrap64] <;> omega]
    exact ih m (by omega) (by omega)
theorem l_turned (n : Nat) (xs : List Nat) (hx : xs.length ≤ 1048576) (hn : xs.length < n) : f28_l_r8Turned (n + 1) xs.length (fls .f32 xs) = some (xs.length, fls .f32 xs.reverse) := by
  have e := l_turned_loop n xs hx xs.length n (Nat.le_refl _) hn
  rw [List.drop_length] at e
  have e : f28_l_r8Turned.l0 n n xs.length (fls .f32 xs) 0 (reps 0 [(T.flt FloatKind.f32 0)]) ((xs.length : Int) - 1) = _ := e
  rw [f28_l_r8Turned, show IntKind.i64.wrap ((xs.length : Int) - 1) = (xs.length : Int) - 1 by rw [wrap64] <;> omega, e]
  simp only [bd_s, List.length_reverse]

theorem le400 : 400 ≤ 2 * FloatKind.f32.format.binade := by
  have := binade32
  generalize 2 * FloatKind.f32.format.binade = M at this
  omega
/-- powers of differences are numbers, not below zero -/
theorem dot_nonneg : ∀ (ds : List Nat) (s : Nat) (v : Rat) (B : Nat), (∀ d ∈ ds, Bd .f32 d 20) → Val .f32 s v → 0 ≤ v → v ≤ (B : Rat) → B + 400 * ds.length ≤ 16777216 → ∃ w, Val .f32 (dotM s ds ds) w ∧ 0 ≤ w := by
  intro ds
  induction ds with
  | nil => intro s v B _ h h0 _ _; exact ⟨v, h, h0⟩
  | cons d ds ih =>
    intro s v B hd h h0 h1 hl
    simp only [List.length_cons] at hl
    have hl2 : B + 400 + 400 * ds.length ≤ 16777216 := by omega
    have hb2 : B + 400 ≤ 2 * FloatKind.f32.format.binade := Nat.le_trans (Nat.le_trans (Nat.le_add_right _ _) hl2) (Nat.le_of_eq binade32.symm)
    obtain ⟨u, u1, u2, u3⟩ := hd d (by simp)
    have h20 : ((20 : Nat) : Rat) = 20 := rfl
    rw [h20] at u2 u3
    have h400 : ((400 : Nat) : Rat) = 400 := rfl
    have hB : Rep0 .f32 ((400 : Nat) : Rat) := rep_nat .f32 le400
    have hT : ((400 : Nat) : Rat) < p2 (topE .f32) := nat_top .f32 le400
    have hs := mul_between (A := 20) (B := 20) (by decide) (by decide) u2 u3 u2 u3
    have hsq : 0 ≤ u * u := by
      rcases (Rat.le_total : (0 : Rat) ≤ u ∨ u ≤ 0) with h | h
      · exact Rat.mul_nonneg h h
      · have := Rat.mul_nonneg (show 0 ≤ -u by grind) (show 0 ≤ -u by grind); grind
    obtain ⟨q, q1, q2⟩ := mul_val u1 u1 hB hT (by rw [h400]; grind) (by rw [h400]; grind)
    have hq0 := (q2 0 (repZ _)).2 hsq
    have hq1 : q ≤ ((400 : Nat) : Rat) := (q2 _ hB.rep).1 (by rw [h400]; grind)
    have hB2 : Rep0 .f32 ((B + 400 : Nat) : Rat) := rep_nat .f32 hb2
    have hT2 : ((B + 400 : Nat) : Rat) < p2 (topE .f32) := nat_top .f32 hb2
    have hBn : (0 : Rat) ≤ (B : Rat) := by exact_mod_cast Nat.zero_le B
    rw [natcast_add] at hB2 hT2
    obtain ⟨r, r1, r2⟩ := add_val h q1 hB2 hT2 (by grind) (by grind)
    have hr0 := (r2 0 (repZ _)).2 (by grind)
    have hr1 := (r2 _ hB2.rep).1 (show v + q ≤ (B : Rat) + ((400 : Nat) : Rat) by grind)
    rw [← natcast_add] at hr1
    exact ih _ r (B + 400) (fun d hd' => hd d (by simp [hd'])) r1 hr0 hr1 hl2
/-- no differences, no power -/
theorem dot_none : ∀ (ds : List Nat) (s : Nat), (∀ d ∈ ds, Val .f32 d 0) → Val .f32 s 0 → Val .f32 (dotM s ds ds) 0 := by
  intro ds
  induction ds with
  | nil => intro s _ h; exact h
  | cons d ds ih =>
    intro s hd h
    have hB : Rep0 .f32 ((0 : Nat) : Rat) := rep_nat .f32 (by rw [binade32]; omega)
    have hT : ((0 : Nat) : Rat) < p2 (topE .f32) := nat_top .f32 (by rw [binade32]; omega)
    have h0 : ((0 : Nat) : Rat) = 0 := rfl
    rw [h0] at hB hT
    have u1 := hd d (by simp)
    obtain ⟨q, q1, q2⟩ := mul_val u1 u1 hB hT (by grind) (by grind)
    rw [show (0 : Rat) * 0 = 0 by grind] at q2
    have hq := q1.near_eq q2 (repZ _)
    obtain ⟨r, r1, r2⟩ := add_val h hq hB hT (by grind) (by grind)
    rw [show (0 : Rat) + 0 = 0 by grind] at r2
    exact ih _ (fun d hd' => hd d (by simp [hd'])) (r1.near_eq r2 (repZ _))
theorem plain_bd {x : Nat} (h : Plain x) : Bd .f32 x 10 := by
  obtain ⟨v, -, -, v3, v4, v5⟩ := h.val
  have h10 : ((10 : Nat) : Rat) = 10 := rfl
  refine ⟨_, fin_val h.fin, ?_, ?_⟩ <;> rw [h10] <;> rcases v5 with e | e <;> rw [e] <;> grind
theorem getD_plain {xs : List Nat} (h : ∀ x ∈ xs, Plain x) {i : Nat} (hi : i < xs.length) : Plain (xs.getD i 0) := by
  have : xs.getD i 0 = xs[i] := by simp [List.getD, hi]
  rw [this]; exact h _ (List.getElem_mem hi)
theorem lag_val {xs : List Nat} (h : ∀ x ∈ xs, Plain x) {lag w : Nat} (hw : lag + w ≤ xs.length) (hl : xs.length ≤ 1000) : ∃ v, Val .f32 (lagM xs lag w) v ∧ 0 ≤ v := by
  refine dot_nonneg (lagL xs lag w) 0 0 0 ?_ (val_zero .f32) Rat.le_refl (by decide) (by simp [lagL]; omega)
  intro d hd
  simp only [lagL, List.mem_map, List.mem_range] at hd
  obtain ⟨i, hi, rfl⟩ := hd
  have := (plain_bd (getD_plain h (i := i) (by omega))).sub (plain_bd (getD_plain h (i := i + lag) (by omega))) (by rw [binade32]; omega)
  exact this
/-- the least power, first -/
def Inv (V : Nat → Rat) (b i : Nat) : Prop := 1 ≤ b ∧ b < i ∧ (∀ k, 1 ≤ k → k < b → V b < V k) ∧ (∀ k, b ≤ k → k < i → V b ≤ V k)
theorem pitch_loop (n : Nat) (xs : List Nat) (hx : xs.length ≤ 256) (hn : xs.length < n) (hi : Nat) (hh : hi < xs.length) (V : Nat → Rat) (hV : ∀ k, 1 ≤ k → k ≤ hi → Val .f32 (lagM xs k (xs.length - hi)) (V k)) : ∀ (j m i b : Nat), Inv V b i → i + j = hi + 1 → j < m →
    ∃ b', Inv V b' (hi + 1) ∧ f25_i_PitchOf.l0 (n + 2) m xs.length (fls .f32 xs) (hi : Int) (xs.length : Int) (b : Int) (lagM xs b (xs.length - hi)) (i : Int) = some ((b' : Int), lagM xs b' (xs.length - hi)) := by
  intro j
  induction j with
  | zero =>
    intro m i b hb he hm
    obtain ⟨m, rfl⟩ : ∃ k, m = k + 1 := ⟨m - 1, by omega⟩
    obtain rfl : i = hi + 1 := by omega
    refine ⟨b, hb, ?_⟩
    rw [f25_i_PitchOf.l0, decide_eq_false (show ¬ (((hi + 1 : Nat) : Int) ≤ (hi : Int)) by omega)]; rfl
  | succ j ih =>
    intro m i b hb he hm
    obtain ⟨m, rfl⟩ : ∃ k, m = k + 1 := ⟨m - 1, by omega⟩
    obtain ⟨b1, b2, b3, b4⟩ := hb
    have hvi := hV i (by omega) (by omega)
    have hvb := hV b (by omega) (by omega)
    rw [f25_i_PitchOf.l0, decide_eq_true (show (i : Int) ≤ (hi : Int) by omega), show IntKind.i64.wrap ((xs.length : Int) - (hi : Int)) = ((xs.length - hi : Nat) : Int) by rw [wrap64] <;> omega, i_lags n xs (by omega) i (xs.length - hi) (by omega) hn, wrap_succ (by omega), decide_eq_false (show ¬ (b : Int) < 0 by omega)]
    simp only [bd_s, br_t, br_f, (feq_val hvi hvi).2 rfl]
    cases h : flt .f32 (lagM xs i (xs.length - hi)) (lagM xs b (xs.length - hi))
    · rw [br_f]
      have hle : V b ≤ V i := by
        rcases (Rat.le_total : V b ≤ V i ∨ V i ≤ V b) with h5 | h5
        · exact h5
        · refine Rat.not_lt.1 fun h6 => ?_
          rw [(flt_val hvi hvb).2 h6] at h; exact absurd h (by decide)
      refine ih m (i + 1) b ⟨b1, by omega, b3, fun k k1 k2 => ?_⟩ (by omega) (by omega)
      rcases Nat.lt_or_ge k i with h7 | h7
      · exact b4 k k1 h7
      · obtain rfl : k = i := by omega
        exact hle
    · rw [br_t]
      have hlt := (flt_val hvi hvb).1 h
      refine ih m (i + 1) i ⟨by omega, by omega, fun k k1 k2 => ?_, fun k k1 k2 => ?_⟩ (by omega) (by omega)
      · rcases Nat.lt_or_ge k b with h7 | h7
        · have := b3 k k1 h7; grind
        · have := b4 k h7 k2; grind
      · obtain rfl : k = i := by omega
        exact Rat.le_refl
theorem pitch (n : Nat) (xs : List Nat) (hx : xs.length ≤ 256) (hn : xs.length < n) (hi : Nat) (h1 : 1 ≤ hi) (hh : hi < xs.length) (V : Nat → Rat) (hV : ∀ k, 1 ≤ k → k ≤ hi → Val .f32 (lagM xs k (xs.length - hi)) (V k)) :
    ∃ b, Inv V b (hi + 1) ∧ f25_i_PitchOf (n + 3) xs.length (fls .f32 xs) 1 (hi : Int) = some ((b : Int), lagM xs b (xs.length - hi), true) := by
  have h0 : Inv V 1 2 := by
    refine ⟨by omega, by omega, fun k k1 k2 => by omega, fun k k1 k2 => ?_⟩
    have hk : k = 1 := by omega
    rw [hk]; exact Rat.le_refl
  obtain ⟨b, hb, e⟩ := pitch_loop n xs hx hn hi hh V hV (hi - 1) (n + 1) 2 1 h0 (by omega) (by omega)
  refine ⟨b, hb, ?_⟩
  have hb1 := hb.1
  have hv1 := hV 1 (by omega) h1
  have first : f25_i_PitchOf.l0 (n + 2) (n + 2) xs.length (fls .f32 xs) (hi : Int) (xs.length : Int) (-1) 0 1 = f25_i_PitchOf.l0 (n + 2) (n + 1) xs.length (fls .f32 xs) (hi : Int) (xs.length : Int) ((1 : Nat) : Int) (lagM xs 1 (xs.length - hi)) ((2 : Nat) : Int) := by
    rw [f25_i_PitchOf.l0, decide_eq_true (show (1 : Int) ≤ (hi : Int) by omega), show IntKind.i64.wrap ((xs.length : Int) - (hi : Int)) = ((xs.length - hi : Nat) : Int) by rw [wrap64] <;> omega, show f84_i_lagPower (n + 2) xs.length (fls .f32 xs) 1 ((xs.length - hi : Nat) : Int) = some (lagM xs 1 (xs.length - hi)) from i_lags n xs (by omega) 1 (xs.length - hi) (by omega) hn]
    simp only [bd_s, br_t, (feq_val hv1 hv1).2 rfl]
    rfl
  rw [f25_i_PitchOf, i_sized]
  simp only [i_few, i_in, bd_s, decide_eq_true (show (xs.length : Int) ≤ 256 by omega), br_not, br_t, show IntKind.i64.wrap ((xs.length : Int) - 1) = (xs.length : Int) - 1 by rw [wrap64] <;> omega,
    decide_eq_true (show (1 : Int) ≤ 1 ∧ (1 : Int) ≤ (xs.length : Int) - 1 by omega), decide_eq_true (show (1 : Int) ≤ (hi : Int) ∧ (hi : Int) ≤ (xs.length : Int) - 1 by omega), first, e, decide_eq_false (show ¬ (b : Int) < 0 by omega), br_f]
/-- crossings -/
def cross (a b : Nat) : Bool := (flt .f32 b 0 && fge .f32 a 0) || (fge .f32 b 0 && flt .f32 a 0)
def crosses : List Nat → Nat
  | a :: b :: t => (if cross a b then 1 else 0) + crosses (b :: t)
  | _ => 0
theorem cross_comm (a b : Nat) : cross a b = cross b a := by
  unfold cross
  cases flt .f32 b 0 <;> cases fge .f32 b 0 <;> cases flt .f32 a 0 <;> cases fge .f32 a 0 <;> rfl
theorem crosses_le : ∀ xs : List Nat, crosses xs ≤ xs.length - 1
  | [] => by simp [crosses]
  | [a] => by simp [crosses]
  | a :: b :: t => by
    have := crosses_le (b :: t)
    simp only [crosses, List.length_cons] at this ⊢
    split <;> omega
theorem crosses_snoc (a b : Nat) : ∀ l : List Nat, crosses (l ++ [a, b]) = crosses (l ++ [a]) + (if cross a b then 1 else 0)
  | [] => by simp [crosses]
  | [c] => by simp [crosses]
  | c :: d :: l => by
    have := crosses_snoc a b (d :: l)
    simp only [List.cons_append] at this ⊢
    simp only [crosses]; omega
theorem crosses_rev : ∀ l : List Nat, crosses l.reverse = crosses l
  | [] => rfl
  | [a] => rfl
  | a :: b :: t => by
    have := crosses_rev (b :: t)
    rw [List.reverse_cons, List.reverse_cons, List.append_assoc, List.singleton_append, crosses_snoc]
    rw [List.reverse_cons] at this
    rw [this, cross_comm b a]
    simp only [crosses]; omega
theorem cross_loop (n : Nat) : ∀ (zs p : List Nat) (a c m : Nat), c + zs.length < 1048576 → p.length + zs.length < 1048576 → zs.length < m →
    f27_i_CrossingsOf.l0 n m (p ++ a :: zs).length (fls .f32 (p ++ a :: zs)) (c : Int) ((p.length + 1 : Nat) : Int) = some ((c + crosses (a :: zs) : Nat) : Int) := by
  intro zs
  induction zs with
  | nil =>
    intro p a c m _ _ hm
    obtain ⟨m, rfl⟩ : ∃ k, m = k + 1 := ⟨m - 1, by omega⟩
    rw [f27_i_CrossingsOf.l0, nlt_dec (by simp)]; rfl
  | cons z zs ih =>
    intro p a c m hc hp hm
    obtain ⟨m, rfl⟩ : ∃ k, m = k + 1 := ⟨m - 1, by omega⟩
    simp only [List.length_cons] at hc hp hm
    have skip := ih (p ++ [a]) z c m (by omega) (by simp; omega) (by omega)
    have more := ih (p ++ [a]) z (c + 1) m (by omega) (by simp; omega) (by omega)
    rw [show (p ++ [a]) ++ z :: zs = p ++ a :: z :: zs by simp, show (p ++ [a]).length = p.length + 1 by simp] at skip more
    have g1 : fAt (fls .f32 (p ++ a :: z :: zs)) p.length = a := fAt_mid
    have g2 : fAt (fls .f32 (p ++ a :: z :: zs)) (p.length + 1) = z := by simp [fAt_fls, List.getD]
    have w1 : IntKind.i64.wrap (((p.length + 1 : Nat) : Int) - 1) = ((p.length : Nat) : Int) := by rw [wrap64] <;> omega
    rw [f27_i_CrossingsOf.l0, w1, lt_dec (show p.length + 1 < (p ++ a :: z :: zs).length by simp), in_dec (show p.length < (p ++ a :: z :: zs).length by simp), in_dec (show p.length + 1 < (p ++ a :: z :: zs).length by simp), Int.toNat_natCast, Int.toNat_natCast, okAt_fls (show p.length < (p ++ a :: z :: zs).length by simp), okAt_fls (show p.length + 1 < (p ++ a :: z :: zs).length by simp), wrap_succ (show p.length + 1 < 9223372036854775807 by omega), wrap_succ (show c < 9223372036854775807 by omega)]
    have four : ∀ (b1 b2 b3 b4 : Bool) (X Y : Option Int), br b1 (br b2 X (br b3 (br b4 X Y) Y)) (br b3 (br b4 X Y) Y) = if ((b1 && b2) || (b3 && b4)) = true then X else Y := by
      intro b1 b2 b3 b4 X Y
      cases b1 <;> cases b2 <;> cases b3 <;> cases b4 <;> rfl
    simp only [br_t, gd_t, Bool.and_self, g1, g2, four]
    have hcr : (flt .f32 z 0 && fge .f32 a 0 || fge .f32 z 0 && flt .f32 a 0) = cross a z := rfl
    rw [hcr]
    by_cases h : cross a z = true
    · rw [if_pos h, show crosses (a :: z :: zs) = (if cross a z = true then 1 else 0) + crosses (z :: zs) from rfl, if_pos h, show c + (1 + crosses (z :: zs)) = c + 1 + crosses (z :: zs) by omega]; exact more
    · rw [if_neg h, show crosses (a :: z :: zs) = (if cross a z = true then 1 else 0) + crosses (z :: zs) from rfl, if_neg h, Nat.zero_add]; exact skip
theorem crossed (n : Nat) (xs : List Nat) (h0 : xs ≠ []) (hx : xs.length ≤ 256) (hn : xs.length < n) : f27_i_CrossingsOf (n + 2) xs.length (fls .f32 xs) = some (((crosses xs : Nat) : Int), true) := by
  cases xs with
  | nil => exact absurd rfl h0
  | cons a zs =>
    have e := cross_loop (n + 1) zs [] a 0 (n + 1) (by simp at hx; omega) (by simp at hx ⊢; omega) (by simp at hn; omega)
    have e : f27_i_CrossingsOf.l0 (n + 1) (n + 1) (a :: zs).length (fls .f32 (a :: zs)) 0 1 = some ((0 + crosses (a :: zs) : Nat) : Int) := e
    rw [f27_i_CrossingsOf, i_few, decide_eq_true (show ((a :: zs).length : Int) ≤ 256 by omega), e, Nat.zero_add]; rfl
theorem below_loop (n : Nat) (xs : List Nat) (hx : xs.length ≤ 256) (hn : xs.length < n) (hi : Nat) (hh : hi < xs.length) (b : Nat) (hb : b ≤ hi + 1) (hf : ∀ k, 1 ≤ k → k < b → fgt .f32 (lagM xs k (xs.length - hi)) 0 = true) : ∀ (j i m : Nat), 1 ≤ i → i + j = b → j < m →
    f4_l_FnPitch.l1 (n + 3) m xs.length (fls .f32 xs) (xs.length : Int) (hi : Int) (b : Int) (i : Int) = some (.inr (xs.length, fls .f32 xs, (xs.length : Int))) := by
  intro j
  induction j with
  | zero =>
    intro i m h1 he hm
    obtain ⟨m, rfl⟩ : ∃ k, m = k + 1 := ⟨m - 1, by omega⟩
    rw [f4_l_FnPitch.l1, nlt_dec (by omega)]; rfl
  | succ j ih =>
    intro i m h1 he hm
    obtain ⟨m, rfl⟩ : ∃ k, m = k + 1 := ⟨m - 1, by omega⟩
    rw [f4_l_FnPitch.l1, lt_dec (by omega), show IntKind.i64.wrap ((xs.length : Int) - (hi : Int)) = ((xs.length - hi : Nat) : Int) by rw [wrap64] <;> omega, i_lagpower n xs hx i (xs.length - hi) (by omega) (by omega) hn, wrap_succ (by omega)]
    simp only [br_t, bd_s, br_not, hf i h1 (by omega)]
    exact ih (i + 1) m (by omega) (by omega) (by omega)
theorem exact_ (cs : List Int) (hc : ∀ b ∈ cs, GoodI .u8 b) (lc : cs.length ≤ maxLen) (ms : List Int) (hm : ∀ b ∈ ms, GoodI .u8 b) (lm : ms.length ≤ maxLen) : ∃ n, f4_l_FnPitch n cs.length (its .u8 cs) ms.length (its .u8 ms) = some true := by
  refine ⟨1000, ?_⟩
  suffices h : ∀ n, f4_l_FnPitch (n + 500) cs.length (its .u8 cs) ms.length (its .u8 ms) = some true from h 500
  intro n
  rw [f4_l_FnPitch, l_long]
  cases hlong : decide (48 < cs.length ∨ 48 < ms.length)
  case true => rfl
  obtain ⟨c, hc1, e1⟩ := l_at (n + 498) (bytes_of hc) (i := 40) (k := 6) (by omega) (by omega)
  obtain ⟨c, rfl⟩ := Int.eq_ofNat_of_zero_le hc1.1
  have w1 : IntKind.i64.wrap (1 + (c : Int)) = ((1 + c : Nat) : Int) := by rw [wrap64] <;> omega
  obtain ⟨xs, hxl, hxp, e2⟩ := s_r8plain (n + 494) (bytes_of hm) (1 + c) (by omega) (by omega)
  have e2 : f24_s_R8Plain (n + 499) ms.length (its .u8 ms) ((1 + c : Nat) : Int) = some (xs.length, fls .f32 xs) := e2
  obtain ⟨d, hd1, e3⟩ := l_at (n + 498) (bytes_of hc) (i := 41) (k := ((1 + c : Nat) : Int)) (by omega) (by omega)
  obtain ⟨d, rfl⟩ := Int.eq_ofNat_of_zero_le hd1.1
  obtain ⟨ys, hys⟩ : ∃ ys, ys = xs ++ (xs ++ (xs ++ xs)) := ⟨_, rfl⟩
  have hyl : ys.length = 4 * (1 + c) := by rw [hys]; simp; omega
  have hyp : ∀ y ∈ ys, Plain y := by
    intro y hy
    rw [hys] at hy
    simp only [List.mem_append, or_self] at hy
    exact hxp y hy
  have four : f4_l_FnPitch.l0 (n + 499) (n + 499) cs.length (its .u8 cs) ((1 + c : Nat) : Int) xs.length (fls .f32 xs) 0 (reps 0 [(T.flt FloatKind.f32 0)]) 0 = some (cs.length, its .u8 cs, ((1 + c : Nat) : Int), ys.length, fls .f32 ys) := by
    have go : ∀ (as_ : List Nat) (i : Int) (m : Nat), as_.length ≤ 1000 → 0 ≤ i → i < 4 → f4_l_FnPitch.l0 (n + 499) (m + 1) cs.length (its .u8 cs) ((1 + c : Nat) : Int) xs.length (fls .f32 xs) as_.length (fls .f32 as_) i = f4_l_FnPitch.l0 (n + 499) m cs.length (its .u8 cs) ((1 + c : Nat) : Int) xs.length (fls .f32 xs) (as_ ++ xs).length (fls .f32 (as_ ++ xs)) (i + 1) := by
      intro as_ i m h1 h2 h3
      rw [f4_l_FnPitch.l0, decide_eq_true h3, le_ble (show as_.length + xs.length ≤ 2147483648 by omega), fls_append, show as_.length + xs.length = (as_ ++ xs).length by simp, show IntKind.i64.wrap (i + 1) = i + 1 by rw [wrap64] <;> omega]
      rfl
    have s1 := go [] 0 (n + 498) (by simp) (by omega) (by omega)
    have s2 := go ([] ++ xs) 1 (n + 497) (by simp; omega) (by omega) (by omega)
    have s3 := go ([] ++ xs ++ xs) 2 (n + 496) (by simp; omega) (by omega) (by omega)
    have s4 := go ([] ++ xs ++ xs ++ xs) 3 (n + 495) (by simp; omega) (by omega) (by omega)
    have s1 : f4_l_FnPitch.l0 (n + 499) (n + 499) cs.length (its .u8 cs) ((1 + c : Nat) : Int) xs.length (fls .f32 xs) 0 (reps 0 [(T.flt FloatKind.f32 0)]) 0 = _ := s1
    rw [s1]
    refine s2.trans (s3.trans (s4.trans ?_))
    rw [show [] ++ xs ++ xs ++ xs ++ xs = ys by rw [hys]; simp]
    rw [f4_l_FnPitch.l0]; rfl
  have hhi : 1 + c + d < ys.length := by omega
  have wh : IntKind.i64.wrap (((1 + c : Nat) : Int) + (d : Int)) = ((1 + c + d : Nat) : Int) := by rw [wrap64] <;> omega
  have wd : IntKind.i64.wrap ((ys.length : Int) - ((1 + c + d : Nat) : Int)) = ((ys.length - (1 + c + d) : Nat) : Int) := by rw [wrap64] <;> omega
  -- the powers
  have hex : ∀ k : Nat, ∃ v : Rat, (1 ≤ k ∧ k ≤ 1 + c + d → Val .f32 (lagM ys k (ys.length - (1 + c + d))) v ∧ 0 ≤ v) := by
    intro k
    by_cases h : 1 ≤ k ∧ k ≤ 1 + c + d
    · obtain ⟨v, v1, v2⟩ := lag_val hyp (lag := k) (w := ys.length - (1 + c + d)) (by omega) (by omega)
      exact ⟨v, fun _ => ⟨v1, v2⟩⟩
    · exact ⟨0, fun h' => absurd h' h⟩
  obtain ⟨V, hV⟩ : ∃ V : Nat → Rat, ∀ k, (1 ≤ k ∧ k ≤ 1 + c + d → Val .f32 (lagM ys k (ys.length - (1 + c + d))) (V k) ∧ 0 ≤ V k) := ⟨fun k => (hex k).choose, fun k => (hex k).choose_spec⟩
  obtain ⟨b, hb, e4⟩ := pitch (n + 496) ys (by omega) (by omega) (1 + c + d) (by omega) hhi V (fun k k1 k2 => (hV k ⟨k1, k2⟩).1)
  obtain ⟨b1, b2, b3, b4⟩ := hb
  have own : Val .f32 (lagM ys (1 + c) (ys.length - (1 + c + d))) 0 := by
    refine dot_none _ 0 ?_ (val_zero .f32)
    intro z hz
    simp only [lagL, List.mem_map, List.mem_range] at hz
    obtain ⟨i, hi, rfl⟩ := hz
    have e : ys.getD (i + (1 + c)) 0 = ys.getD i 0 := by
      have h3 : (xs ++ (xs ++ xs)).length = 3 * (1 + c) := by simp; omega
      have g1 : ys.getD (i + (1 + c)) 0 = (xs ++ (xs ++ xs)).getD i 0 := by
        rw [hys]; simp only [List.getD]
        rw [List.getElem?_append_right (by omega), hxl, Nat.add_sub_cancel]
      have g2 : ys.getD i 0 = (xs ++ (xs ++ xs)).getD i 0 := by
        rw [hys, show xs ++ (xs ++ (xs ++ xs)) = (xs ++ (xs ++ xs)) ++ xs by simp]; simp only [List.getD]
        rw [List.getElem?_append_left (by omega)]
      rw [g1, g2]
    obtain ⟨v, v1, -, -⟩ := plain_bd (getD_plain hyp (i := i) (by omega))
    unfold lagD
    rw [e]
    have hB : Rep0 .f32 ((0 : Nat) : Rat) := rep_nat .f32 (Nat.zero_le _)
    have hT : ((0 : Nat) : Rat) < p2 (topE .f32) := nat_top .f32 (Nat.zero_le _)
    have h0 : ((0 : Nat) : Rat) = 0 := rfl
    rw [h0] at hB hT
    obtain ⟨r, r1, r2⟩ := sub_val v1 v1 hB hT (by grind) (by grind)
    rw [show v - v = 0 by grind] at r2
    exact r1.near_eq r2 (repZ _)
  have hVp : V (1 + c) = 0 := (hV (1 + c) (by omega)).1.inj own
  have hVb := hV b ⟨b1, by omega⟩
  have hbp : b ≤ 1 + c := by
    refine Nat.not_lt.1 fun h => ?_
    have := b3 (1 + c) (by omega) h
    have := hVb.2
    grind
  have hVb0 : V b = 0 := by
    have h1 := b4 (1 + c) hbp (by omega)
    have h2 := hVb.2
    grind
  have vb := hVb.1
  rw [hVb0] at vb
  have ne0 : ∀ x, Val .f32 x 0 → fne .f32 x 0 = false := by
    intro x hx
    have := (feq_val hx (val_zero .f32)).2 rfl
    have e : fne .f32 x 0 = !(feq .f32 x 0) := rfl
    rw [e, this]; rfl
  have e5 := i_lagpower (n + 496) ys (by omega) (1 + c) (ys.length - (1 + c + d)) (by omega) (by omega) (by omega)
  have e6 := below_loop (n + 496) ys (by omega) (by omega) (1 + c + d) hhi b (by omega) (fun k k1 k2 => by
    have h1 := hV k ⟨k1, by omega⟩
    have h2 := b3 k k1 k2
    exact (fgt_val h1.1 (val_zero .f32)).2 (by grind)) (b - 1) 1 (n + 499) (by omega) (by omega) (by omega)
  have hne : ys ≠ [] := by intro h; rw [h] at hyl; simp at hyl; omega
  have e7 := crossed (n + 497) ys hne (by omega) (by omega)
  have e8 := l_turned (n + 498) ys (by omega) (by omega)
  have e9 := crossed (n + 497) ys.reverse (by simpa using hne) (by simp; omega) (by simp; omega)
  rw [crosses_rev, List.length_reverse] at e9
  have hcl := crosses_le ys
  have e6 : f4_l_FnPitch.l1 (n + 499) (n + 499) ys.length (fls .f32 ys) (ys.length : Int) ((1 + c + d : Nat) : Int) (b : Int) 1 = some (.inr (ys.length, fls .f32 ys, (ys.length : Int))) := e6
  simp only [br_f, bd_s, e1, w1, e2, four, e3, wh, e4, wd, e5, br_not, br_t, ne0 _ own, ne0 _ vb, decide_eq_false (show ¬ (b : Int) < 1 by omega), decide_eq_false (show ¬ (b : Int) > ((1 + c : Nat) : Int) by omega), e6, sm_r, e7, e8, e9, beq_self_eq_true, decide_eq_true (show ((crosses ys : Nat) : Int) ≥ 0 by omega), decide_eq_true (show ((crosses ys : Nat) : Int) < (ys.length : Int) by omega)]
theorem law4 : ∀ args, LawArgs E Try.f4.params.toList args → ∃ N os, evalFn E N 4 args = some ⟨[⟨false, [.leaf], [.bool true]⟩], os⟩ := by
  intro args h0
  have hp : Try.f4.params.toList = [22, 22] := by kernel_rfl
  rw [hp] at h0
  obtain ⟨ts0, r0, rfl, hw0, h1⟩ := h0.cons_inv (d := ⟨false, 1, 24, [.sl .own [.leaf]], [.lst 0 []], .slc 5⟩) (by kernel_rfl)
  obtain ⟨n0, cs0, rfl, gl0, hs0⟩ := hw0.slc_inv (e := 5) (d := ⟨false, 1, 24, [.sl .own [.leaf]], [.lst 0 []], .slc 5⟩) (by kernel_rfl) rfl
  obtain ⟨a0, rfl, rfl, g0⟩ := hs0.ints (k := .u8) (d := ⟨false, 1, 1, [.leaf], [.int .u8 0], .int .u8⟩) (by kernel_rfl) rfl
  obtain ⟨ts1, r1, rfl, hw1, h2⟩ := h1.cons_inv (d := ⟨false, 1, 24, [.sl .own [.leaf]], [.lst 0 []], .slc 5⟩) (by kernel_rfl)
  obtain ⟨n1, cs1, rfl, gl1, hs1⟩ := hw1.slc_inv (e := 5) (d := ⟨false, 1, 24, [.sl .own [.leaf]], [.lst 0 []], .slc 5⟩) (by kernel_rfl) rfl
  obtain ⟨a1, rfl, rfl, g1⟩ := hs1.ints (k := .u8) (d := ⟨false, 1, 1, [.leaf], [.int .u8 0], .int .u8⟩) (by kernel_rfl) rfl
  obtain rfl := h2.nil_inv
  obtain ⟨N, hN⟩ := exact_ a0 g0 gl0 a1 g1 gl1
  exact ⟨N, _, f4_l_FnPitch.ok N (a0.length, its .u8 a0, a1.length, its .u8 a1) true hN⟩


end Go.Proofs.Ythgenpcoelihiaa.D
end
section
/- FnPitch holds: for every input the law returns true, and its arguments read as before. -/
namespace Go.Proofs.Ythgenpcoelihiaa.fnPitch
open Go Go.ChangeShapes Go.WideShapes Go.ChangeAt Go.RowKit Go.Desk
set_option linter.unusedVariables false
theorem own : ownKnob Try.prog.godebug = none := by kernel_rfl
theorem laidOut : laidOutB Try.prog = true := by kernel_rfl
set_option maxRecDepth 100000 in
theorem lifted (os : Os) (started : os.Started) (H : Type) (enc : TypeId × Value → H) :
    ReturnsInHanded {} Try.checked os 4 .any (Rows.fnPitchSpec.pre6 enc Try.prog Try.f4 Rows.fnPitchRow.domain false) (Rows.fnPitchSpec.post enc Try.prog Try.f4 false true false false) := by
  refine returnsInHanded_of_change (C := Try.checked) own started (by kernel_rfl) Try.func4
    (ChangeSpec.witness6 (enc := enc) (C := Try.checked) false ⟨#[], #[.slice none 0 0, .slice none 0 0], []⟩ 8 (by kernel_rfl) (by kernel_rfl) (by kernel_rfl) (by kernel_rfl)) ?_
  intro W base args ds gs before hval hW hcnd _
  exact law_contract (c := D.c4) Try.checked.mixed D.tysOk D.fnOk Try.func4 (by kernel_rfl) (by kernel_rfl) (by kernel_rfl) Try.underlying4 rfl
    (fun ds h => by
      rw [show Try.f4.params.toList.length = 2 by kernel_rfl] at h
      match ds, h with
      | [_, _], _ => rfl)
    laidOut (N := 8) (by kernel_rfl) (by kernel_rfl) D.law4 hval hW
theorem over : Rows.fnPitchRow.holds Try.pinned (OpenSpec.ofChange Rows.fnPitchSpec) :=
  OpenClaim.holds_of_wide 4 Try.f4 rfl rfl rfl rfl rfl rfl rfl ⟨rfl, rfl, rfl, rfl, rfl⟩ rfl rfl rfl rfl rfl (by kernel_rfl) Try.func4 (by kernel_rfl)
    (of_decide_eq_true (by kernel_rfl)) (by unfold Func.isWrapper; first | (rw [if_pos (by decide +kernel)]; kernel_rfl) | (rw [if_neg (by decide +kernel)]; exact ⟨rfl, rfl⟩))
    (fun os started H enc _ => lifted os started H enc)
theorem proved : Rows.FnPitchSaid := over
#print axioms proved
end Go.Proofs.Ythgenpcoelihiaa.fnPitch
namespace Go.Proofs.Ythgenpcoelihiaa
/-- The row, under a short name, for the claim. -/
theorem fnPitch_holds : Rows.FnPitchSaid := fnPitch.proved
end Go.Proofs.Ythgenpcoelihiaa
end
