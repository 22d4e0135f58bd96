/- FnNarrowed holds: for every input the law returns true, and its arguments read as before. -/
import Derived.Test.YthgenpcoelihiaaChecked
import Derived.Test.YthgenpcoelihiaaDeskE
import Derived.KernelRfl
import Derived.Test.YthgenpcoelihiaaRows
import Derived.WalkKit
import Derived.ProofKit
import Derived.OpenShut
import Derived.ShutString
import Derived.ChangeOld
import Derived.Below
import Derived.SizedLaws
set_option linter.all false
section
/- The tables of the reading: types and functions of the translation, with what is kept at each region's beginning (written by a program of this workplace). -/
namespace Go.Proofs.Ythgenpcoelihiaa.D
open Go Go.Desk
def bodyOf (f : Func) : Code := match f.body with
  | some c => c
  | none => .skip
def tyTab : List (Nat × TD) := [
  (2, ⟨false, 1, 8, [.leaf], [.int .i64 0], .int .i64⟩),
  (3, ⟨false, 1, 8, [.leaf], [.int .i64 0], .int .i64⟩),
  (4, ⟨false, 1, 1, [.leaf], [.bool false], .bool⟩),
  (5, ⟨false, 1, 1, [.leaf], [.int .u8 0], .int .u8⟩),
  (22, ⟨false, 1, 24, [.sl .own [.leaf]], [.lst 0 []], .slc 5⟩),
  (24, ⟨false, 1, 4, [.leaf], [.flt .f32 0], .flt .f32⟩),
  (28, ⟨false, 1, 8, [.leaf], [.flt .f64 0], .flt .f64⟩),
  (75, ⟨false, 1, 8, [.leaf], [.nil], .ptr 105⟩),
  (87, ⟨false, 1, 4, [.leaf], [.int .u32 0], .int .u32⟩),
  (96, ⟨false, 1, 24, [.sl .own [.leaf]], [.lst 0 []], .slc 2⟩),
  (103, ⟨false, 1, 8, [.leaf], [.int .u64 0], .int .u64⟩),
  (105, ⟨true, 3, 40, [.sl .own [.leaf], .leaf, .leaf], [.lst 0 [], .int .i64 0, .int .u64 0], .st [(0, 22), (1, 3), (2, 103)]⟩),
  (116, ⟨false, 1, 8, [.leaf], [.int .u64 0], .int .u64⟩)]
noncomputable def c3 : Code := bodyOf Try.f3
noncomputable def c15 : Code := bodyOf Try.f15
noncomputable def c16 : Code := bodyOf Try.f16
noncomputable def c17 : Code := bodyOf Try.f17
noncomputable def c18 : Code := bodyOf Try.f18
noncomputable def c19 : Code := bodyOf Try.f19
noncomputable def c20 : Code := bodyOf Try.f20
noncomputable def c21 : Code := bodyOf Try.f21
noncomputable def c71 : Code := bodyOf Try.f71
noncomputable def c72 : Code := bodyOf Try.f72
noncomputable def c73 : Code := bodyOf Try.f73
noncomputable def c74 : Code := bodyOf Try.f74
noncomputable def c75 : Code := bodyOf Try.f75
noncomputable def c76 : Code := bodyOf Try.f76
noncomputable def c77 : Code := bodyOf Try.f77
noncomputable def c78 : Code := bodyOf Try.f78
noncomputable def c79 : Code := bodyOf Try.f79
noncomputable def c80 : Code := bodyOf Try.f80
noncomputable def c111 : Code := bodyOf Try.f111
noncomputable def c112 : Code := bodyOf Try.f112
noncomputable def fnTab : List (Nat × FD) := [
  (3, .code c3 [.val, .val] [] [(4, none)] [(0, [0, 1]), (1, [0, 1]), (2, []), (3, [0]), (4, [5]), (5, []), (6, [5]), (7, [5, 6]), (8, []), (9, [5, 6]), (10, [5, 6, 7]), (11, [5, 6, 7, 8]), (12, [5, 6, 7, 8, 9]), (13, [5, 6, 7, 8, 9, 10]), (14, [5, 6, 7, 8, 9]), (15, [5, 6, 7, 8, 9, 10])]),
  (15, .code c15 [.val, .val] [] [(4, none)] [(0, [0, 1]), (1, [0, 1])]),
  (16, .code c16 [.val] [] [(2, none)] [(0, [0]), (1, [0]), (2, [3]), (3, [3]), (4, [3, 4]), (5, [3])]),
  (17, .code c17 [.val, .val] [] [(4, none)] [(0, [0, 1]), (1, [0, 1])]),
  (18, .code c18 [.val] [] [(2, none)] [(0, [0]), (1, [0])]),
  (19, .code c19 [.val] [] [(2, none)] [(0, [0]), (1, [0])]),
  (20, .code c20 [.val] [] [(2, none)] [(0, [0]), (1, [0])]),
  (21, .code c21 [.val] [] [(2, none)] [(0, [0]), (1, [0])]),
  (71, .code c71 [.val] [] [(2, none)] [(0, [0]), (1, [0])]),
  (72, .code c72 [.iop, .val] [0] [(4, none)] [(0, [0, 1]), (1, [0, 1])]),
  (73, .code c73 [.iop, .val] [0] [(4, none)] [(0, [0, 1]), (1, [0, 1]), (2, [0]), (3, [0, 1]), (4, [0, 1, 5]), (5, [0, 1, 5]), (6, [0, 1, 5])]),
  (74, .code c74 [.val] [] [(2, none)] [(0, [0]), (1, [0])]),
  (75, .code c75 [.iop] [0] [(2, none)] [(0, [0]), (1, [0]), (2, [0]), (3, [0]), (4, [0, 10]), (5, [0]), (6, [0, 10]), (7, [0]), (8, [0, 3]), (9, [0, 10]), (10, [0]), (11, [0])]),
  (76, .code c76 [.val, .val] [] [(4, none)] [(0, [0, 1]), (1, [0, 1])]),
  (77, .code c77 [.val] [] [(2, none)] [(0, [0]), (1, [0]), (2, [0, 3]), (3, [0]), (4, [0, 3]), (5, []), (6, [0, 3]), (7, [3]), (8, [3])]),
  (78, .code c78 [.val] [] [(2, none)] [(0, [0]), (1, [0])]),
  (79, .code c79 [.val] [] [(2, none)] [(0, [0]), (1, [0]), (2, []), (3, [0])]),
  (80, .code c80 [.iop] [0] [(2, none)] [(0, [0]), (1, [0]), (2, [0, 3]), (3, [0, 3]), (4, [0, 3])]),
  (87, .ext (pF32bits)),
  (93, .ext (pF32frombits)),
  (111, .code c111 [.iop] [0] [(2, none)] [(0, [0]), (1, [0]), (2, [0, 3]), (3, [0]), (4, [0, 3]), (5, [0, 3]), (6, [0, 3]), (7, [0, 3]), (8, [0])]),
  (112, .code c112 [.iop, .io] [0, 1] [(4, none)] [(0, [0, 1]), (1, [0, 1])])]
noncomputable def E : Env := ⟨fun t => lookT tyTab t, lookF fnTab⟩
noncomputable def fdAt (n : Nat) : FD := match lookF fnTab n with
  | some d => d
  | none => .ext fun _ => none
noncomputable def keepAt (n : Nat) : List (Nat × List Nat) := match lookF fnTab n with
  | some d => d.keep
  | none => []
theorem tysOk : TysOk Try.prog E := tysOk_of (l := tyTab) (fun _ => rfl) (by kernel_rfl)
theorem ft3 : FnTab Try.prog E 3 (fdAt 3) := fnTab_code (c := c3) (modes := (fdAt 3).ms) (outs := (fdAt 3).os) (results := (fdAt 3).rs) (keep := (fdAt 3).keep) Try.func3 (by kernel_rfl) (by kernel_rfl) (by kernel_rfl)
theorem ft15 : FnTab Try.prog E 15 (fdAt 15) := fnTab_code (c := c15) (modes := (fdAt 15).ms) (outs := (fdAt 15).os) (results := (fdAt 15).rs) (keep := (fdAt 15).keep) Try.func15 (by kernel_rfl) (by kernel_rfl) (by kernel_rfl)
theorem ft16 : FnTab Try.prog E 16 (fdAt 16) := fnTab_code (c := c16) (modes := (fdAt 16).ms) (outs := (fdAt 16).os) (results := (fdAt 16).rs) (keep := (fdAt 16).keep) Try.func16 (by kernel_rfl) (by kernel_rfl) (by kernel_rfl)
theorem ft17 : FnTab Try.prog E 17 (fdAt 17) := fnTab_code (c := c17) (modes := (fdAt 17).ms) (outs := (fdAt 17).os) (results := (fdAt 17).rs) (keep := (fdAt 17).keep) Try.func17 (by kernel_rfl) (by kernel_rfl) (by kernel_rfl)
theorem ft18 : FnTab Try.prog E 18 (fdAt 18) := fnTab_code (c := c18) (modes := (fdAt 18).ms) (outs := (fdAt 18).os) (results := (fdAt 18).rs) (keep := (fdAt 18).keep) Try.func18 (by kernel_rfl) (by kernel_rfl) (by kernel_rfl)
theorem ft19 : FnTab Try.prog E 19 (fdAt 19) := fnTab_code (c := c19) (modes := (fdAt 19).ms) (outs := (fdAt 19).os) (results := (fdAt 19).rs) (keep := (fdAt 19).keep) Try.func19 (by kernel_rfl) (by kernel_rfl) (by kernel_rfl)
theorem ft20 : FnTab Try.prog E 20 (fdAt 20) := fnTab_code (c := c20) (modes := (fdAt 20).ms) (outs := (fdAt 20).os) (results := (fdAt 20).rs) (keep := (fdAt 20).keep) Try.func20 (by kernel_rfl) (by kernel_rfl) (by kernel_rfl)
theorem ft21 : FnTab Try.prog E 21 (fdAt 21) := fnTab_code (c := c21) (modes := (fdAt 21).ms) (outs := (fdAt 21).os) (results := (fdAt 21).rs) (keep := (fdAt 21).keep) Try.func21 (by kernel_rfl) (by kernel_rfl) (by kernel_rfl)
theorem ft71 : FnTab Try.prog E 71 (fdAt 71) := fnTab_code (c := c71) (modes := (fdAt 71).ms) (outs := (fdAt 71).os) (results := (fdAt 71).rs) (keep := (fdAt 71).keep) Try.func71 (by kernel_rfl) (by kernel_rfl) (by kernel_rfl)
theorem ft72 : FnTab Try.prog E 72 (fdAt 72) := fnTab_code (c := c72) (modes := (fdAt 72).ms) (outs := (fdAt 72).os) (results := (fdAt 72).rs) (keep := (fdAt 72).keep) Try.func72 (by kernel_rfl) (by kernel_rfl) (by kernel_rfl)
theorem ft73 : FnTab Try.prog E 73 (fdAt 73) := fnTab_code (c := c73) (modes := (fdAt 73).ms) (outs := (fdAt 73).os) (results := (fdAt 73).rs) (keep := (fdAt 73).keep) Try.func73 (by kernel_rfl) (by kernel_rfl) (by kernel_rfl)
theorem ft74 : FnTab Try.prog E 74 (fdAt 74) := fnTab_code (c := c74) (modes := (fdAt 74).ms) (outs := (fdAt 74).os) (results := (fdAt 74).rs) (keep := (fdAt 74).keep) Try.func74 (by kernel_rfl) (by kernel_rfl) (by kernel_rfl)
theorem ft75 : FnTab Try.prog E 75 (fdAt 75) := fnTab_code (c := c75) (modes := (fdAt 75).ms) (outs := (fdAt 75).os) (results := (fdAt 75).rs) (keep := (fdAt 75).keep) Try.func75 (by kernel_rfl) (by kernel_rfl) (by kernel_rfl)
theorem ft76 : FnTab Try.prog E 76 (fdAt 76) := fnTab_code (c := c76) (modes := (fdAt 76).ms) (outs := (fdAt 76).os) (results := (fdAt 76).rs) (keep := (fdAt 76).keep) Try.func76 (by kernel_rfl) (by kernel_rfl) (by kernel_rfl)
theorem ft77 : FnTab Try.prog E 77 (fdAt 77) := fnTab_code (c := c77) (modes := (fdAt 77).ms) (outs := (fdAt 77).os) (results := (fdAt 77).rs) (keep := (fdAt 77).keep) Try.func77 (by kernel_rfl) (by kernel_rfl) (by kernel_rfl)
theorem ft78 : FnTab Try.prog E 78 (fdAt 78) := fnTab_code (c := c78) (modes := (fdAt 78).ms) (outs := (fdAt 78).os) (results := (fdAt 78).rs) (keep := (fdAt 78).keep) Try.func78 (by kernel_rfl) (by kernel_rfl) (by kernel_rfl)
theorem ft79 : FnTab Try.prog E 79 (fdAt 79) := fnTab_code (c := c79) (modes := (fdAt 79).ms) (outs := (fdAt 79).os) (results := (fdAt 79).rs) (keep := (fdAt 79).keep) Try.func79 (by kernel_rfl) (by kernel_rfl) (by kernel_rfl)
theorem ft80 : FnTab Try.prog E 80 (fdAt 80) := fnTab_code (c := c80) (modes := (fdAt 80).ms) (outs := (fdAt 80).os) (results := (fdAt 80).rs) (keep := (fdAt 80).keep) Try.func80 (by kernel_rfl) (by kernel_rfl) (by kernel_rfl)
theorem ft87 : FnTab Try.prog E 87 (.ext (pF32bits)) := ext_pF32bits Try.func87 (by kernel_rfl) (by kernel_rfl) (by kernel_rfl) (by kernel_rfl)
theorem ft93 : FnTab Try.prog E 93 (.ext (pF32frombits)) := ext_pF32frombits Try.func93 (by kernel_rfl) (by kernel_rfl) (by kernel_rfl) (by kernel_rfl)
theorem ft111 : FnTab Try.prog E 111 (fdAt 111) := fnTab_code (c := c111) (modes := (fdAt 111).ms) (outs := (fdAt 111).os) (results := (fdAt 111).rs) (keep := (fdAt 111).keep) Try.func111 (by kernel_rfl) (by kernel_rfl) (by kernel_rfl)
theorem ft112 : FnTab Try.prog E 112 (fdAt 112) := fnTab_code (c := c112) (modes := (fdAt 112).ms) (outs := (fdAt 112).os) (results := (fdAt 112).rs) (keep := (fdAt 112).keep) Try.func112 (by kernel_rfl) (by kernel_rfl) (by kernel_rfl)
theorem allFns : AllFns Try.prog E fnTab := .cons ft3 (.cons ft15 (.cons ft16 (.cons ft17 (.cons ft18 (.cons ft19 (.cons ft20 (.cons ft21 (.cons ft71 (.cons ft72 (.cons ft73 (.cons ft74 (.cons ft75 (.cons ft76 (.cons ft77 (.cons ft78 (.cons ft79 (.cons ft80 (.cons ft87 (.cons ft93 (.cons ft111 (.cons ft112 (.nil))))))))))))))))))))))
theorem fnOk : ∀ f fd, E.fn f = some fd → FnTab Try.prog E f fd := fnTab_of (l := fnTab) (fun _ => rfl) allFns
end Go.Proofs.Ythgenpcoelihiaa.D
end
section
/- Plain functions for the law's Go functions, each tied to the reading by the kernel (printed by a program of this workplace). -/
namespace Go.Proofs.Ythgenpcoelihiaa.D
open Go Go.Desk
set_option linter.unusedVariables false
noncomputable def x93.w : FnW E := xF32frombits.w 93 (by kernel_rfl)

noncomputable def x87.w : FnW E := xF32bits.w 87 (by kernel_rfl)

def f15_l_b10Long : Nat → Nat → List T → Nat → List T → Option (Bool)
  | 0, _, _, _, _ => none
  | n + 1, n1, l2, n3, l4 =>
    br (decide (((n1 : Nat) : Int) > (1048576 : Int))) (
     some true) (
     some (decide (((n3 : Nat) : Int) > (1048576 : Int))))
def sg_ll : Sig (Nat × List T × Nat × List T) where
  pk := fun v => [.lst v.1 v.2.1, .lst v.2.2.1 v.2.2.2]
  up := fun ls => match ls with
    | [.lst a0 a1, .lst a2 a3] => some (a0, a1, a2, a3)
    | _ => none
  ok := by
    intro ls v h
    split at h
    · cases h; rfl
    · cases h

def sg_b : Sig (Bool) where
  pk := fun v => [.bool v]
  up := fun ls => match ls with
    | [.bool a0] => some a0
    | _ => none
  ok := by
    intro ls v h
    split at h
    · cases h; rfl
    · cases h

def f15_l_b10Long.P : List Arg := [⟨.val, ⟨false, [.sl .shr [.leaf]], [.lst 0 []]⟩⟩, ⟨.val, ⟨false, [.sl .shr [.leaf]], [.lst 0 []]⟩⟩]
def f15_l_b10Long.A : RAlt (Bool) := .one ⟨[⟨false, [.leaf], [.bool false]⟩], [none, none]⟩ sg_b
def f15_l_b10Long.F (n : Nat) (v : Nat × List T × Nat × List T) := f15_l_b10Long n v.1 v.2.1 v.2.2.1 v.2.2.2
noncomputable def f15_l_b10Long.O (n : Nat) : Orc := orcOf (E := E) [] [] n
theorem f15_l_b10Long.ok : ∀ n v x, f15_l_b10Long.F n v = some x → evalFn E n 15 (flAs f15_l_b10Long.P (sg_ll.pk v)) = some (f15_l_b10Long.A.enc x) :=
  fn_pure (modes := (fdAt 15).ms) (outs := (fdAt 15).os) (results := (fdAt 15).rs) f15_l_b10Long.O (c := c15) (keep := keepAt 15) (by kernel_rfl) (fun n => orcOf_cf _ _ n) (fun n => lpOk_of (bs := []) (by kernel_rfl) .nil) (fun _ => rfl) (fun _ _ => by kernel_rfl)
noncomputable def f15_l_b10Long.w : FnW E := fnW 15 f15_l_b10Long.P sg_ll f15_l_b10Long.A f15_l_b10Long.F f15_l_b10Long.ok

def f71_s_l00From : Nat → Nat → List T → Option (Nat × List T × Int × Int)
  | 0, _, _ => none
  | n + 1, n1, l2 =>
    some (n1, l2, (0 : Int), (0 : Int))
def sg_l : Sig (Nat × List T) where
  pk := fun v => [.lst v.1 v.2]
  up := fun ls => match ls with
    | [.lst a0 a1] => some (a0, a1)
    | _ => none
  ok := by
    intro ls v h
    split at h
    · cases h; rfl
    · cases h

def sg_lii : Sig (Nat × List T × Int × Int) where
  pk := fun v => [.lst v.1 v.2.1, .int v.2.2.1, .int v.2.2.2]
  up := fun ls => match ls with
    | [.lst a0 a1, .int a2, .int a3] => some (a0, a1, a2, a3)
    | _ => none
  ok := by
    intro ls v h
    split at h
    · cases h; rfl
    · cases h

def f71_s_l00From.P : List Arg := [⟨.val, ⟨false, [.sl .shr [.leaf]], [.lst 0 []]⟩⟩]
def f71_s_l00From.A : RAlt (Nat × List T × Int × Int) := .one ⟨[⟨false, [.rf .own [.sl .shr [.leaf], .leaf, .leaf]], [.ref [.lst 0 [], .int .i64 0, .int .u64 0]]⟩], [none]⟩ sg_lii
def f71_s_l00From.F (n : Nat) (v : Nat × List T) := f71_s_l00From n v.1 v.2
noncomputable def f71_s_l00From.O (n : Nat) : Orc := orcOf (E := E) [] [] n
theorem f71_s_l00From.ok : ∀ n v x, f71_s_l00From.F n v = some x → evalFn E n 71 (flAs f71_s_l00From.P (sg_l.pk v)) = some (f71_s_l00From.A.enc x) :=
  fn_pure (modes := (fdAt 71).ms) (outs := (fdAt 71).os) (results := (fdAt 71).rs) f71_s_l00From.O (c := c71) (keep := keepAt 71) (by kernel_rfl) (fun n => orcOf_cf _ _ n) (fun n => lpOk_of (bs := []) (by kernel_rfl) .nil) (fun _ => rfl) (fun _ _ => by kernel_rfl)
noncomputable def f71_s_l00From.w : FnW E := fnW 71 f71_s_l00From.P sg_l f71_s_l00From.A f71_s_l00From.F f71_s_l00From.ok

def f111_s_l00Srcnext : Nat → Nat → List T → Int → Int → Option (Int × Nat × List T × Int × Int)
  | 0, _, _, _, _ => none
  | n + 1, n1, l2, i3, i4 =>
    br (decide (i3 < ((n1 : Nat) : Int))) (
     gd ((decide (((0 : Int) ≤ i3) ∧ (i3 < ((n1 : Nat) : Int)))) && (okAt [(CK.int IntKind.u8)] l2 (Int.toNat i3))) (
     let i5 : Int := (IntKind.i64.wrap (iAt l2 (Int.toNat i3)))
     let i6 : Int := (IntKind.i64.wrap (i3 + (1 : Int)))
     let i7 : Int := (IntKind.u64.wrap ((IntKind.u64.wrap ((IntKind.u64.wrap (i4 * (6364136223846793005 : Int))) + (IntKind.u64.wrap i5))) + (1442695040888963407 : Int)))
     br (decide (i6 ≤ ((n1 : Nat) : Int))) (
      some (i5, n1, l2, i6, i7)) (
      some ((IntKind.i64.wrap (intBits BinOp.and IntKind.u64 (Int.fdiv i7 (1099511627776 : Int)) (255 : Int))), n1, l2, i6, i7)))) (
     let i8 : Int := (IntKind.i64.wrap (i3 + (1 : Int)))
     let i9 : Int := (IntKind.u64.wrap ((IntKind.u64.wrap ((IntKind.u64.wrap (i4 * (6364136223846793005 : Int))) + (0 : Int))) + (1442695040888963407 : Int)))
     br (decide (i8 ≤ ((n1 : Nat) : Int))) (
      some ((0 : Int), n1, l2, i8, i9)) (
      some ((IntKind.i64.wrap (intBits BinOp.and IntKind.u64 (Int.fdiv i9 (1099511627776 : Int)) (255 : Int))), n1, l2, i8, i9)))
def sg_ilii : Sig (Int × Nat × List T × Int × Int) where
  pk := fun v => [.int v.1, .lst v.2.1 v.2.2.1, .int v.2.2.2.1, .int v.2.2.2.2]
  up := fun ls => match ls with
    | [.int a0, .lst a1 a2, .int a3, .int a4] => some (a0, a1, a2, a3, a4)
    | _ => none
  ok := by
    intro ls v h
    split at h
    · cases h; rfl
    · cases h

def f111_s_l00Srcnext.P : List Arg := [⟨.iop, ⟨false, [.rf .own [.sl .shr [.leaf], .leaf, .leaf]], [.ref [.lst 0 [], .int .i64 0, .int .u64 0]]⟩⟩]
def f111_s_l00Srcnext.A : RAlt (Int × Nat × List T × Int × Int) := .one ⟨[⟨false, [.leaf], [.int .i64 0]⟩], [some ⟨false, [.rf .own [.sl .shr [.leaf], .leaf, .leaf]], [.ref [.lst 0 [], .int .i64 0, .int .u64 0]]⟩]⟩ sg_ilii
def f111_s_l00Srcnext.F (n : Nat) (v : Nat × List T × Int × Int) := f111_s_l00Srcnext n v.1 v.2.1 v.2.2.1 v.2.2.2
noncomputable def f111_s_l00Srcnext.O (n : Nat) : Orc := orcOf (E := E) [] [] n
theorem f111_s_l00Srcnext.ok : ∀ n v x, f111_s_l00Srcnext.F n v = some x → evalFn E n 111 (flAs f111_s_l00Srcnext.P (sg_lii.pk v)) = some (f111_s_l00Srcnext.A.enc x) :=
  fn_pure (modes := (fdAt 111).ms) (outs := (fdAt 111).os) (results := (fdAt 111).rs) f111_s_l00Srcnext.O (c := c111) (keep := keepAt 111) (by kernel_rfl) (fun n => orcOf_cf _ _ n) (fun n => lpOk_of (bs := []) (by kernel_rfl) .nil) (fun _ => rfl) (fun _ _ => by kernel_rfl)
noncomputable def f111_s_l00Srcnext.w : FnW E := fnW 111 f111_s_l00Srcnext.P sg_lii f111_s_l00Srcnext.A f111_s_l00Srcnext.F f111_s_l00Srcnext.ok

def f73_s_l00Srcpick : Nat → Nat → List T → Int → Int → Int → Option (Int × Nat × List T × Int × Int)
  | 0, _, _, _, _, _ => none
  | n + 1, n1, l2, i3, i4, i5 =>
    br (decide (i5 ≤ (1 : Int))) (
     some ((0 : Int), n1, l2, i3, i4)) (
     bd (f111_s_l00Srcnext n n1 l2 i3 i4) fun r6 =>
     let i7 : Int := r6.1
     let n8 : Nat := r6.2.1
     let l9 : List T := r6.2.2.1
     let i10 : Int := r6.2.2.2.1
     let i11 : Int := r6.2.2.2.2
     br (decide (i5 > (200 : Int))) (
      bd (f111_s_l00Srcnext n n8 l9 i10 i11) fun r12 =>
      let i13 : Int := r12.1
      let n14 : Nat := r12.2.1
      let l15 : List T := r12.2.2.1
      let i16 : Int := r12.2.2.2.1
      let i17 : Int := r12.2.2.2.2
      let i18 : Int := (IntKind.i64.wrap ((IntKind.i64.wrap (i7 * (256 : Int))) + i13))
      gd (!(decide (i5 = (0 : Int)))) (
      some ((Int.tmod i18 i5), n14, l15, i16, i17))) (
      gd (!(decide (i5 = (0 : Int)))) (
      some ((Int.tmod i7 i5), n8, l9, i10, i11))))
def sg_liii : Sig (Nat × List T × Int × Int × Int) where
  pk := fun v => [.lst v.1 v.2.1, .int v.2.2.1, .int v.2.2.2.1, .int v.2.2.2.2]
  up := fun ls => match ls with
    | [.lst a0 a1, .int a2, .int a3, .int a4] => some (a0, a1, a2, a3, a4)
    | _ => none
  ok := by
    intro ls v h
    split at h
    · cases h; rfl
    · cases h

def f73_s_l00Srcpick.P : List Arg := [⟨.iop, ⟨false, [.rf .own [.sl .shr [.leaf], .leaf, .leaf]], [.ref [.lst 0 [], .int .i64 0, .int .u64 0]]⟩⟩, ⟨.val, ⟨false, [.leaf], [.int .i64 0]⟩⟩]
def f73_s_l00Srcpick.A : RAlt (Int × Nat × List T × Int × Int) := .one ⟨[⟨false, [.leaf], [.int .i64 0]⟩], [some ⟨false, [.rf .own [.sl .shr [.leaf], .leaf, .leaf]], [.ref [.lst 0 [], .int .i64 0, .int .u64 0]]⟩, none]⟩ sg_ilii
def f73_s_l00Srcpick.F (n : Nat) (v : Nat × List T × Int × Int × Int) := f73_s_l00Srcpick n v.1 v.2.1 v.2.2.1 v.2.2.2.1 v.2.2.2.2
noncomputable def f73_s_l00Srcpick.O (n : Nat) : Orc := orcOf (E := E) [f111_s_l00Srcnext.w] [] n
theorem f73_s_l00Srcpick.ok : ∀ n v x, f73_s_l00Srcpick.F n v = some x → evalFn E n 73 (flAs f73_s_l00Srcpick.P (sg_liii.pk v)) = some (f73_s_l00Srcpick.A.enc x) :=
  fn_pure (modes := (fdAt 73).ms) (outs := (fdAt 73).os) (results := (fdAt 73).rs) f73_s_l00Srcpick.O (c := c73) (keep := keepAt 73) (by kernel_rfl) (fun n => orcOf_cf _ _ n) (fun n => lpOk_of (bs := []) (by kernel_rfl) .nil) (fun _ => rfl) (fun _ _ => by kernel_rfl)
noncomputable def f73_s_l00Srcpick.w : FnW E := fnW 73 f73_s_l00Srcpick.P sg_liii f73_s_l00Srcpick.A f73_s_l00Srcpick.F f73_s_l00Srcpick.ok

def f72_s_l00Srcone : Nat → Nat → List T → Int → Int → Int → Option (Bool × Nat × List T × Int × Int)
  | 0, _, _, _, _, _ => none
  | n + 1, n1, l2, i3, i4, i5 =>
    bd (f73_s_l00Srcpick n n1 l2 i3 i4 i5) fun r6 =>
    let i7 : Int := r6.1
    let n8 : Nat := r6.2.1
    let l9 : List T := r6.2.2.1
    let i10 : Int := r6.2.2.2.1
    let i11 : Int := r6.2.2.2.2
    some ((i7 == (0 : Int)), n8, l9, i10, i11)
def sg_blii : Sig (Bool × Nat × List T × Int × Int) where
  pk := fun v => [.bool v.1, .lst v.2.1 v.2.2.1, .int v.2.2.2.1, .int v.2.2.2.2]
  up := fun ls => match ls with
    | [.bool a0, .lst a1 a2, .int a3, .int a4] => some (a0, a1, a2, a3, a4)
    | _ => none
  ok := by
    intro ls v h
    split at h
    · cases h; rfl
    · cases h

def f72_s_l00Srcone.P : List Arg := [⟨.iop, ⟨false, [.rf .own [.sl .shr [.leaf], .leaf, .leaf]], [.ref [.lst 0 [], .int .i64 0, .int .u64 0]]⟩⟩, ⟨.val, ⟨false, [.leaf], [.int .i64 0]⟩⟩]
def f72_s_l00Srcone.A : RAlt (Bool × Nat × List T × Int × Int) := .one ⟨[⟨false, [.leaf], [.bool false]⟩], [some ⟨false, [.rf .own [.sl .shr [.leaf], .leaf, .leaf]], [.ref [.lst 0 [], .int .i64 0, .int .u64 0]]⟩, none]⟩ sg_blii
def f72_s_l00Srcone.F (n : Nat) (v : Nat × List T × Int × Int × Int) := f72_s_l00Srcone n v.1 v.2.1 v.2.2.1 v.2.2.2.1 v.2.2.2.2
noncomputable def f72_s_l00Srcone.O (n : Nat) : Orc := orcOf (E := E) [f73_s_l00Srcpick.w] [] n
theorem f72_s_l00Srcone.ok : ∀ n v x, f72_s_l00Srcone.F n v = some x → evalFn E n 72 (flAs f72_s_l00Srcone.P (sg_liii.pk v)) = some (f72_s_l00Srcone.A.enc x) :=
  fn_pure (modes := (fdAt 72).ms) (outs := (fdAt 72).os) (results := (fdAt 72).rs) f72_s_l00Srcone.O (c := c72) (keep := keepAt 72) (by kernel_rfl) (fun n => orcOf_cf _ _ n) (fun n => lpOk_of (bs := []) (by kernel_rfl) .nil) (fun _ => rfl) (fun _ _ => by kernel_rfl)
noncomputable def f72_s_l00Srcone.w : FnW E := fnW 72 f72_s_l00Srcone.P sg_liii f72_s_l00Srcone.A f72_s_l00Srcone.F f72_s_l00Srcone.ok

def f74_s_l01From : Nat → Int → Option (Nat)
  | 0, _ => none
  | n + 1, i1 =>
    bd (xF32frombits n (IntKind.u32.wrap i1)) fun r2 =>
    let x3 : Nat := r2
    some x3
def sg_i : Sig (Int) where
  pk := fun v => [.int v]
  up := fun ls => match ls with
    | [.int a0] => some a0
    | _ => none
  ok := by
    intro ls v h
    split at h
    · cases h; rfl
    · cases h

def sg_f : Sig (Nat) where
  pk := fun v => [.flt v]
  up := fun ls => match ls with
    | [.flt a0] => some a0
    | _ => none
  ok := by
    intro ls v h
    split at h
    · cases h; rfl
    · cases h

def f74_s_l01From.P : List Arg := [⟨.val, ⟨false, [.leaf], [.int .i64 0]⟩⟩]
def f74_s_l01From.A : RAlt (Nat) := .one ⟨[⟨false, [.leaf], [.flt .f32 0]⟩], [none]⟩ sg_f
def f74_s_l01From.F (n : Nat) (v : Int) := f74_s_l01From n v
noncomputable def f74_s_l01From.O (n : Nat) : Orc := orcOf (E := E) [x93.w] [] n
theorem f74_s_l01From.ok : ∀ n v x, f74_s_l01From.F n v = some x → evalFn E n 74 (flAs f74_s_l01From.P (sg_i.pk v)) = some (f74_s_l01From.A.enc x) :=
  fn_pure (modes := (fdAt 74).ms) (outs := (fdAt 74).os) (results := (fdAt 74).rs) f74_s_l01From.O (c := c74) (keep := keepAt 74) (by kernel_rfl) (fun n => orcOf_cf _ _ n) (fun n => lpOk_of (bs := []) (by kernel_rfl) .nil) (fun _ => rfl) (fun _ _ => by kernel_rfl)
noncomputable def f74_s_l01From.w : FnW E := fnW 74 f74_s_l01From.P sg_i f74_s_l01From.A f74_s_l01From.F f74_s_l01From.ok

def f80_s_l01DrawPlain : Nat → Nat → List T → Int → Int → Option (Nat × Nat × List T × Int × Int)
  | 0, _, _, _, _ => none
  | n + 1, n1, l2, i3, i4 =>
    bd (f73_s_l00Srcpick n n1 l2 i3 i4 (129 : Int)) fun r5 =>
    let i6 : Int := r5.1
    let n7 : Nat := r5.2.1
    let l8 : List T := r5.2.2.1
    let i9 : Int := r5.2.2.2.1
    let i10 : Int := r5.2.2.2.2
    let i11 : Int := (IntKind.i64.wrap (i6 - (64 : Int)))
    bd (f72_s_l00Srcone n n7 l8 i9 i10 (4 : Int)) fun r12 =>
    let b13 : Bool := r12.1
    let n14 : Nat := r12.2.1
    let l15 : List T := r12.2.2.1
    let i16 : Int := r12.2.2.2.1
    let i17 : Int := r12.2.2.2.2
    br b13 (
     some ((fdiv FloatKind.f32 (FloatKind.nearest FloatKind.f32 i11) 1088421888), n14, l15, i16, i17)) (
     some ((fdiv FloatKind.f32 (FloatKind.nearest FloatKind.f32 i11) 1098907648), n14, l15, i16, i17))
def sg_flii : Sig (Nat × Nat × List T × Int × Int) where
  pk := fun v => [.flt v.1, .lst v.2.1 v.2.2.1, .int v.2.2.2.1, .int v.2.2.2.2]
  up := fun ls => match ls with
    | [.flt a0, .lst a1 a2, .int a3, .int a4] => some (a0, a1, a2, a3, a4)
    | _ => none
  ok := by
    intro ls v h
    split at h
    · cases h; rfl
    · cases h

def f80_s_l01DrawPlain.P : List Arg := [⟨.iop, ⟨false, [.rf .own [.sl .shr [.leaf], .leaf, .leaf]], [.ref [.lst 0 [], .int .i64 0, .int .u64 0]]⟩⟩]
def f80_s_l01DrawPlain.A : RAlt (Nat × Nat × List T × Int × Int) := .one ⟨[⟨false, [.leaf], [.flt .f32 0]⟩], [some ⟨false, [.rf .own [.sl .shr [.leaf], .leaf, .leaf]], [.ref [.lst 0 [], .int .i64 0, .int .u64 0]]⟩]⟩ sg_flii
def f80_s_l01DrawPlain.F (n : Nat) (v : Nat × List T × Int × Int) := f80_s_l01DrawPlain n v.1 v.2.1 v.2.2.1 v.2.2.2
noncomputable def f80_s_l01DrawPlain.O (n : Nat) : Orc := orcOf (E := E) [f73_s_l00Srcpick.w, f72_s_l00Srcone.w] [] n
theorem f80_s_l01DrawPlain.ok : ∀ n v x, f80_s_l01DrawPlain.F n v = some x → evalFn E n 80 (flAs f80_s_l01DrawPlain.P (sg_lii.pk v)) = some (f80_s_l01DrawPlain.A.enc x) :=
  fn_pure (modes := (fdAt 80).ms) (outs := (fdAt 80).os) (results := (fdAt 80).rs) f80_s_l01DrawPlain.O (c := c80) (keep := keepAt 80) (by kernel_rfl) (fun n => orcOf_cf _ _ n) (fun n => lpOk_of (bs := []) (by kernel_rfl) .nil) (fun _ => rfl) (fun _ _ => by kernel_rfl)
noncomputable def f80_s_l01DrawPlain.w : FnW E := fnW 80 f80_s_l01DrawPlain.P sg_lii f80_s_l01DrawPlain.A f80_s_l01DrawPlain.F f80_s_l01DrawPlain.ok

def f112_s_l00Srcamong : Nat → Nat → List T → Int → Int → Nat → List T → Option (Int × Nat × List T × Int × Int × Nat × List T)
  | 0, _, _, _, _, _, _ => none
  | n + 1, n1, l2, i3, i4, n5, l6 =>
    bd (f73_s_l00Srcpick n n1 l2 i3 i4 ((n5 : Nat) : Int)) fun r7 =>
    let i8 : Int := r7.1
    let n9 : Nat := r7.2.1
    let l10 : List T := r7.2.2.1
    let i11 : Int := r7.2.2.2.1
    let i12 : Int := r7.2.2.2.2
    gd (decide (((0 : Int) ≤ i8) ∧ (i8 < ((n5 : Nat) : Int)))) (
    gd (okAt [(CK.int IntKind.i64)] l6 (Int.toNat i8)) (
    some ((iAt l6 (Int.toNat i8)), n9, l10, i11, i12, n5, l6)))
def sg_liil : Sig (Nat × List T × Int × Int × Nat × List T) where
  pk := fun v => [.lst v.1 v.2.1, .int v.2.2.1, .int v.2.2.2.1, .lst v.2.2.2.2.1 v.2.2.2.2.2]
  up := fun ls => match ls with
    | [.lst a0 a1, .int a2, .int a3, .lst a4 a5] => some (a0, a1, a2, a3, a4, a5)
    | _ => none
  ok := by
    intro ls v h
    split at h
    · cases h; rfl
    · cases h

def sg_iliil : Sig (Int × Nat × List T × Int × Int × Nat × List T) where
  pk := fun v => [.int v.1, .lst v.2.1 v.2.2.1, .int v.2.2.2.1, .int v.2.2.2.2.1, .lst v.2.2.2.2.2.1 v.2.2.2.2.2.2]
  up := fun ls => match ls with
    | [.int a0, .lst a1 a2, .int a3, .int a4, .lst a5 a6] => some (a0, a1, a2, a3, a4, a5, a6)
    | _ => none
  ok := by
    intro ls v h
    split at h
    · cases h; rfl
    · cases h

def f112_s_l00Srcamong.P : List Arg := [⟨.iop, ⟨false, [.rf .own [.sl .shr [.leaf], .leaf, .leaf]], [.ref [.lst 0 [], .int .i64 0, .int .u64 0]]⟩⟩, ⟨.io, ⟨false, [.sl .own [.leaf]], [.lst 0 []]⟩⟩]
def f112_s_l00Srcamong.A : RAlt (Int × Nat × List T × Int × Int × Nat × List T) := .one ⟨[⟨false, [.leaf], [.int .i64 0]⟩], [some ⟨false, [.rf .own [.sl .shr [.leaf], .leaf, .leaf]], [.ref [.lst 0 [], .int .i64 0, .int .u64 0]]⟩, some ⟨false, [.sl .own [.leaf]], [.lst 0 []]⟩]⟩ sg_iliil
def f112_s_l00Srcamong.F (n : Nat) (v : Nat × List T × Int × Int × Nat × List T) := f112_s_l00Srcamong n v.1 v.2.1 v.2.2.1 v.2.2.2.1 v.2.2.2.2.1 v.2.2.2.2.2
noncomputable def f112_s_l00Srcamong.O (n : Nat) : Orc := orcOf (E := E) [f73_s_l00Srcpick.w] [] n
theorem f112_s_l00Srcamong.ok : ∀ n v x, f112_s_l00Srcamong.F n v = some x → evalFn E n 112 (flAs f112_s_l00Srcamong.P (sg_liil.pk v)) = some (f112_s_l00Srcamong.A.enc x) :=
  fn_pure (modes := (fdAt 112).ms) (outs := (fdAt 112).os) (results := (fdAt 112).rs) f112_s_l00Srcamong.O (c := c112) (keep := keepAt 112) (by kernel_rfl) (fun n => orcOf_cf _ _ n) (fun n => lpOk_of (bs := []) (by kernel_rfl) .nil) (fun _ => rfl) (fun _ _ => by kernel_rfl)
noncomputable def f112_s_l00Srcamong.w : FnW E := fnW 112 f112_s_l00Srcamong.P sg_liil f112_s_l00Srcamong.A f112_s_l00Srcamong.F f112_s_l00Srcamong.ok

def f75_s_l01DrawFloat : Nat → Nat → List T → Int → Int → Option (Nat × Nat × List T × Int × Int)
  | 0, _, _, _, _ => none
  | n + 1, n1, l2, i3, i4 =>
    bd (f72_s_l00Srcone n n1 l2 i3 i4 (12 : Int)) fun r5 =>
    let b6 : Bool := r5.1
    let n7 : Nat := r5.2.1
    let l8 : List T := r5.2.2.1
    let i9 : Int := r5.2.2.2.1
    let i10 : Int := r5.2.2.2.2
    br (!b6) (
     bd (f80_s_l01DrawPlain n n7 l8 i9 i10) fun r11 =>
     let x12 : Nat := r11.1
     let n13 : Nat := r11.2.1
     let l14 : List T := r11.2.2.1
     let i15 : Int := r11.2.2.2.1
     let i16 : Int := r11.2.2.2.2
     some (x12, n13, l14, i15, i16)) (
     bd (f73_s_l00Srcpick n n7 l8 i9 i10 (4 : Int)) fun r17 =>
     let i18 : Int := r17.1
     let n19 : Nat := r17.2.1
     let l20 : List T := r17.2.2.1
     let i21 : Int := r17.2.2.2.1
     let i22 : Int := r17.2.2.2.2
     br (i18 == (0 : Int)) (
      bd (f112_s_l00Srcamong n n19 l20 i21 i22 10 (setN (setN (setN (setN (setN (setN (setN (setN (setN (setN (reps 10 [(T.int IntKind.i64 (0 : Int))]) 0 [(T.int IntKind.i64 (0 : Int))]) 1 [(T.int IntKind.i64 (2147483648 : Int))]) 2 [(T.int IntKind.i64 (2139095040 : Int))]) 3 [(T.int IntKind.i64 (4286578688 : Int))]) 4 [(T.int IntKind.i64 (2143289344 : Int))]) 5 [(T.int IntKind.i64 (1 : Int))]) 6 [(T.int IntKind.i64 (2139095039 : Int))]) 7 [(T.int IntKind.i64 (8388608 : Int))]) 8 [(T.int IntKind.i64 (8388607 : Int))]) 9 [(T.int IntKind.i64 (2147483649 : Int))])) fun r23 =>
      let i24 : Int := r23.1
      let n25 : Nat := r23.2.1
      let l26 : List T := r23.2.2.1
      let i27 : Int := r23.2.2.2.1
      let i28 : Int := r23.2.2.2.2.1
      let n29 : Nat := r23.2.2.2.2.2.1
      let l30 : List T := r23.2.2.2.2.2.2
      bd (f74_s_l01From n i24) fun r31 =>
      let x32 : Nat := r31
      some (x32, n25, l26, i27, i28)) (
      br (i18 == (1 : Int)) (
       bd (f73_s_l00Srcpick n n19 l20 i21 i22 (65536 : Int)) fun r33 =>
       let i34 : Int := r33.1
       let n35 : Nat := r33.2.1
       let l36 : List T := r33.2.2.1
       let i37 : Int := r33.2.2.2.1
       let i38 : Int := r33.2.2.2.2
       let i39 : Int := (IntKind.i64.wrap (i34 * (65536 : Int)))
       bd (f73_s_l00Srcpick n n35 l36 i37 i38 (65536 : Int)) fun r40 =>
       let i41 : Int := r40.1
       let n42 : Nat := r40.2.1
       let l43 : List T := r40.2.2.1
       let i44 : Int := r40.2.2.2.1
       let i45 : Int := r40.2.2.2.2
       bd (f74_s_l01From n (IntKind.i64.wrap (i39 + i41))) fun r46 =>
       let x47 : Nat := r46
       some (x47, n42, l43, i44, i45)) (
       br (i18 == (2 : Int)) (
        bd (f73_s_l00Srcpick n n19 l20 i21 i22 (65536 : Int)) fun r48 =>
        let i49 : Int := r48.1
        let n50 : Nat := r48.2.1
        let l51 : List T := r48.2.2.1
        let i52 : Int := r48.2.2.2.1
        let i53 : Int := r48.2.2.2.2
        bd (f74_s_l01From n (IntKind.i64.wrap (i49 * (65536 : Int)))) fun r54 =>
        let x55 : Nat := r54
        some (x55, n50, l51, i52, i53)) (
        bd (f80_s_l01DrawPlain n n19 l20 i21 i22) fun r56 =>
        let x57 : Nat := r56.1
        let n58 : Nat := r56.2.1
        let l59 : List T := r56.2.2.1
        let i60 : Int := r56.2.2.2.1
        let i61 : Int := r56.2.2.2.2
        bd (f112_s_l00Srcamong n n58 l59 i60 i61 4 (setN (setN (setN (setN (reps 4 [(T.int IntKind.i64 (0 : Int))]) 0 [(T.int IntKind.i64 (8388608 : Int))]) 1 [(T.int IntKind.i64 (2130706432 : Int))]) 2 [(T.int IntKind.i64 (1610612736 : Int))]) 3 [(T.int IntKind.i64 (536870912 : Int))])) fun r62 =>
        let i63 : Int := r62.1
        let n64 : Nat := r62.2.1
        let l65 : List T := r62.2.2.1
        let i66 : Int := r62.2.2.2.1
        let i67 : Int := r62.2.2.2.2.1
        let n68 : Nat := r62.2.2.2.2.2.1
        let l69 : List T := r62.2.2.2.2.2.2
        bd (f74_s_l01From n i63) fun r70 =>
        let x71 : Nat := r70
        some ((fmul FloatKind.f32 x57 x71), n64, l65, i66, i67)))))
def f75_s_l01DrawFloat.P : List Arg := [⟨.iop, ⟨false, [.rf .own [.sl .shr [.leaf], .leaf, .leaf]], [.ref [.lst 0 [], .int .i64 0, .int .u64 0]]⟩⟩]
def f75_s_l01DrawFloat.A : RAlt (Nat × Nat × List T × Int × Int) := .one ⟨[⟨false, [.leaf], [.flt .f32 0]⟩], [some ⟨false, [.rf .own [.sl .shr [.leaf], .leaf, .leaf]], [.ref [.lst 0 [], .int .i64 0, .int .u64 0]]⟩]⟩ sg_flii
def f75_s_l01DrawFloat.F (n : Nat) (v : Nat × List T × Int × Int) := f75_s_l01DrawFloat n v.1 v.2.1 v.2.2.1 v.2.2.2
noncomputable def f75_s_l01DrawFloat.O (n : Nat) : Orc := orcOf (E := E) [f73_s_l00Srcpick.w, f72_s_l00Srcone.w, f74_s_l01From.w, f80_s_l01DrawPlain.w, f112_s_l00Srcamong.w] [] n
theorem f75_s_l01DrawFloat.ok : ∀ n v x, f75_s_l01DrawFloat.F n v = some x → evalFn E n 75 (flAs f75_s_l01DrawFloat.P (sg_lii.pk v)) = some (f75_s_l01DrawFloat.A.enc x) :=
  fn_pure (modes := (fdAt 75).ms) (outs := (fdAt 75).os) (results := (fdAt 75).rs) f75_s_l01DrawFloat.O (c := c75) (keep := keepAt 75) (by kernel_rfl) (fun n => orcOf_cf _ _ n) (fun n => lpOk_of (bs := []) (by kernel_rfl) .nil) (fun _ => rfl) (fun _ _ => by kernel_rfl)
noncomputable def f75_s_l01DrawFloat.w : FnW E := fnW 75 f75_s_l01DrawFloat.P sg_lii f75_s_l01DrawFloat.A f75_s_l01DrawFloat.F f75_s_l01DrawFloat.ok

def f16_s_B10Number : Nat → Nat → List T → Option (Nat)
  | 0, _, _ => none
  | n + 1, n1, l2 =>
    bd (f71_s_l00From n n1 l2) fun r3 =>
    let n4 : Nat := r3.1
    let l5 : List T := r3.2.1
    let i6 : Int := r3.2.2.1
    let i7 : Int := r3.2.2.2
    bd (f72_s_l00Srcone n n4 l5 i6 i7 (2 : Int)) fun r8 =>
    let b9 : Bool := r8.1
    let n10 : Nat := r8.2.1
    let l11 : List T := r8.2.2.1
    let i12 : Int := r8.2.2.2.1
    let i13 : Int := r8.2.2.2.2
    br b9 (
     bd (f73_s_l00Srcpick n n10 l11 i12 i13 (65536 : Int)) fun r14 =>
     let i15 : Int := r14.1
     let n16 : Nat := r14.2.1
     let l17 : List T := r14.2.2.1
     let i18 : Int := r14.2.2.2.1
     let i19 : Int := r14.2.2.2.2
     let i20 : Int := (IntKind.i64.wrap (i15 * (65536 : Int)))
     bd (f73_s_l00Srcpick n n16 l17 i18 i19 (65536 : Int)) fun r21 =>
     let i22 : Int := r21.1
     let n23 : Nat := r21.2.1
     let l24 : List T := r21.2.2.1
     let i25 : Int := r21.2.2.2.1
     let i26 : Int := r21.2.2.2.2
     bd (f74_s_l01From n (IntKind.i64.wrap (i20 + i22))) fun r27 =>
     let x28 : Nat := r27
     some x28) (
     bd (f75_s_l01DrawFloat n n10 l11 i12 i13) fun r29 =>
     let x30 : Nat := r29.1
     let n31 : Nat := r29.2.1
     let l32 : List T := r29.2.2.1
     let i33 : Int := r29.2.2.2.1
     let i34 : Int := r29.2.2.2.2
     some x30)
def f16_s_B10Number.P : List Arg := [⟨.val, ⟨false, [.sl .shr [.leaf]], [.lst 0 []]⟩⟩]
def f16_s_B10Number.A : RAlt (Nat) := .one ⟨[⟨false, [.leaf], [.flt .f32 0]⟩], [none]⟩ sg_f
def f16_s_B10Number.F (n : Nat) (v : Nat × List T) := f16_s_B10Number n v.1 v.2
noncomputable def f16_s_B10Number.O (n : Nat) : Orc := orcOf (E := E) [f71_s_l00From.w, f73_s_l00Srcpick.w, f72_s_l00Srcone.w, f74_s_l01From.w, f75_s_l01DrawFloat.w] [] n
theorem f16_s_B10Number.ok : ∀ n v x, f16_s_B10Number.F n v = some x → evalFn E n 16 (flAs f16_s_B10Number.P (sg_l.pk v)) = some (f16_s_B10Number.A.enc x) :=
  fn_pure (modes := (fdAt 16).ms) (outs := (fdAt 16).os) (results := (fdAt 16).rs) f16_s_B10Number.O (c := c16) (keep := keepAt 16) (by kernel_rfl) (fun n => orcOf_cf _ _ n) (fun n => lpOk_of (bs := []) (by kernel_rfl) .nil) (fun _ => rfl) (fun _ _ => by kernel_rfl)
noncomputable def f16_s_B10Number.w : FnW E := fnW 16 f16_s_B10Number.P sg_l f16_s_B10Number.A f16_s_B10Number.F f16_s_B10Number.ok

def f18_i_NarrowNumber : Nat → Nat → Option (Nat)
  | 0, _ => none
  | n + 1, x1 =>
    bd ((fltToFlt FloatKind.f64 x1 FloatKind.f32)) fun y2 =>
    some y2
def f18_i_NarrowNumber.P : List Arg := [⟨.val, ⟨false, [.leaf], [.flt .f64 0]⟩⟩]
def f18_i_NarrowNumber.A : RAlt (Nat) := .one ⟨[⟨false, [.leaf], [.flt .f32 0]⟩], [none]⟩ sg_f
def f18_i_NarrowNumber.F (n : Nat) (v : Nat) := f18_i_NarrowNumber n v
noncomputable def f18_i_NarrowNumber.O (n : Nat) : Orc := orcOf (E := E) [] [] n
theorem f18_i_NarrowNumber.ok : ∀ n v x, f18_i_NarrowNumber.F n v = some x → evalFn E n 18 (flAs f18_i_NarrowNumber.P (sg_f.pk v)) = some (f18_i_NarrowNumber.A.enc x) :=
  fn_pure (modes := (fdAt 18).ms) (outs := (fdAt 18).os) (results := (fdAt 18).rs) f18_i_NarrowNumber.O (c := c18) (keep := keepAt 18) (by kernel_rfl) (fun n => orcOf_cf _ _ n) (fun n => lpOk_of (bs := []) (by kernel_rfl) .nil) (fun _ => rfl) (fun _ _ => by kernel_rfl)
noncomputable def f18_i_NarrowNumber.w : FnW E := fnW 18 f18_i_NarrowNumber.P sg_f f18_i_NarrowNumber.A f18_i_NarrowNumber.F f18_i_NarrowNumber.ok

def f79_s_l01Bits : Nat → Nat → Option (Int)
  | 0, _ => none
  | n + 1, x1 =>
    br (fne FloatKind.f32 x1 x1) (
     some (2143289344 : Int)) (
     bd (xF32bits n x1) fun r2 =>
     let i3 : Int := r2
     some (IntKind.i64.wrap i3))
def f79_s_l01Bits.P : List Arg := [⟨.val, ⟨false, [.leaf], [.flt .f32 0]⟩⟩]
def f79_s_l01Bits.A : RAlt (Int) := .one ⟨[⟨false, [.leaf], [.int .i64 0]⟩], [none]⟩ sg_i
def f79_s_l01Bits.F (n : Nat) (v : Nat) := f79_s_l01Bits n v
noncomputable def f79_s_l01Bits.O (n : Nat) : Orc := orcOf (E := E) [x87.w] [] n
theorem f79_s_l01Bits.ok : ∀ n v x, f79_s_l01Bits.F n v = some x → evalFn E n 79 (flAs f79_s_l01Bits.P (sg_f.pk v)) = some (f79_s_l01Bits.A.enc x) :=
  fn_pure (modes := (fdAt 79).ms) (outs := (fdAt 79).os) (results := (fdAt 79).rs) f79_s_l01Bits.O (c := c79) (keep := keepAt 79) (by kernel_rfl) (fun n => orcOf_cf _ _ n) (fun n => lpOk_of (bs := []) (by kernel_rfl) .nil) (fun _ => rfl) (fun _ _ => by kernel_rfl)
noncomputable def f79_s_l01Bits.w : FnW E := fnW 79 f79_s_l01Bits.P sg_f f79_s_l01Bits.A f79_s_l01Bits.F f79_s_l01Bits.ok

def f76_s_l01Same : Nat → Nat → Nat → Option (Bool)
  | 0, _, _ => none
  | n + 1, x1, x2 =>
    bd (f79_s_l01Bits n x1) fun r3 =>
    let i4 : Int := r3
    bd (f79_s_l01Bits n x2) fun r5 =>
    let i6 : Int := r5
    some (i4 == i6)
def sg_ff : Sig (Nat × Nat) where
  pk := fun v => [.flt v.1, .flt v.2]
  up := fun ls => match ls with
    | [.flt a0, .flt a1] => some (a0, a1)
    | _ => none
  ok := by
    intro ls v h
    split at h
    · cases h; rfl
    · cases h

def f76_s_l01Same.P : List Arg := [⟨.val, ⟨false, [.leaf], [.flt .f32 0]⟩⟩, ⟨.val, ⟨false, [.leaf], [.flt .f32 0]⟩⟩]
def f76_s_l01Same.A : RAlt (Bool) := .one ⟨[⟨false, [.leaf], [.bool false]⟩], [none, none]⟩ sg_b
def f76_s_l01Same.F (n : Nat) (v : Nat × Nat) := f76_s_l01Same n v.1 v.2
noncomputable def f76_s_l01Same.O (n : Nat) : Orc := orcOf (E := E) [f79_s_l01Bits.w] [] n
theorem f76_s_l01Same.ok : ∀ n v x, f76_s_l01Same.F n v = some x → evalFn E n 76 (flAs f76_s_l01Same.P (sg_ff.pk v)) = some (f76_s_l01Same.A.enc x) :=
  fn_pure (modes := (fdAt 76).ms) (outs := (fdAt 76).os) (results := (fdAt 76).rs) f76_s_l01Same.O (c := c76) (keep := keepAt 76) (by kernel_rfl) (fun n => orcOf_cf _ _ n) (fun n => lpOk_of (bs := []) (by kernel_rfl) .nil) (fun _ => rfl) (fun _ _ => by kernel_rfl)
noncomputable def f76_s_l01Same.w : FnW E := fnW 76 f76_s_l01Same.P sg_ff f76_s_l01Same.A f76_s_l01Same.F f76_s_l01Same.ok

def f17_s_SameNumber : Nat → Nat → Nat → Option (Bool)
  | 0, _, _ => none
  | n + 1, x1, x2 =>
    bd (f76_s_l01Same n x1 x2) fun r3 =>
    let b4 : Bool := r3
    some b4
def f17_s_SameNumber.P : List Arg := [⟨.val, ⟨false, [.leaf], [.flt .f32 0]⟩⟩, ⟨.val, ⟨false, [.leaf], [.flt .f32 0]⟩⟩]
def f17_s_SameNumber.A : RAlt (Bool) := .one ⟨[⟨false, [.leaf], [.bool false]⟩], [none, none]⟩ sg_b
def f17_s_SameNumber.F (n : Nat) (v : Nat × Nat) := f17_s_SameNumber n v.1 v.2
noncomputable def f17_s_SameNumber.O (n : Nat) : Orc := orcOf (E := E) [f76_s_l01Same.w] [] n
theorem f17_s_SameNumber.ok : ∀ n v x, f17_s_SameNumber.F n v = some x → evalFn E n 17 (flAs f17_s_SameNumber.P (sg_ff.pk v)) = some (f17_s_SameNumber.A.enc x) :=
  fn_pure (modes := (fdAt 17).ms) (outs := (fdAt 17).os) (results := (fdAt 17).rs) f17_s_SameNumber.O (c := c17) (keep := keepAt 17) (by kernel_rfl) (fun n => orcOf_cf _ _ n) (fun n => lpOk_of (bs := []) (by kernel_rfl) .nil) (fun _ => rfl) (fun _ _ => by kernel_rfl)
noncomputable def f17_s_SameNumber.w : FnW E := fnW 17 f17_s_SameNumber.P sg_ff f17_s_SameNumber.A f17_s_SameNumber.F f17_s_SameNumber.ok

def f77_s_l01Next : Nat → Nat → Option (Nat)
  | 0, _ => none
  | n + 1, x1 =>
    bd (f79_s_l01Bits n x1) fun r2 =>
    let i3 : Int := r2
    br (fne FloatKind.f32 x1 x1) (
     some x1) (
     br (i3 == (2139095040 : Int)) (
      some x1) (
      br (feq FloatKind.f32 x1 0) (
       bd (f74_s_l01From n (1 : Int)) fun r4 =>
       let x5 : Nat := r4
       some x5) (
       br (fgt FloatKind.f32 x1 0) (
        bd (f74_s_l01From n (IntKind.i64.wrap (i3 + (1 : Int)))) fun r6 =>
        let x7 : Nat := r6
        some x7) (
        bd (f74_s_l01From n (IntKind.i64.wrap (i3 - (1 : Int)))) fun r8 =>
        let x9 : Nat := r8
        some x9))))
def f77_s_l01Next.P : List Arg := [⟨.val, ⟨false, [.leaf], [.flt .f32 0]⟩⟩]
def f77_s_l01Next.A : RAlt (Nat) := .one ⟨[⟨false, [.leaf], [.flt .f32 0]⟩], [none]⟩ sg_f
def f77_s_l01Next.F (n : Nat) (v : Nat) := f77_s_l01Next n v
noncomputable def f77_s_l01Next.O (n : Nat) : Orc := orcOf (E := E) [f74_s_l01From.w, f79_s_l01Bits.w] [] n
theorem f77_s_l01Next.ok : ∀ n v x, f77_s_l01Next.F n v = some x → evalFn E n 77 (flAs f77_s_l01Next.P (sg_f.pk v)) = some (f77_s_l01Next.A.enc x) :=
  fn_pure (modes := (fdAt 77).ms) (outs := (fdAt 77).os) (results := (fdAt 77).rs) f77_s_l01Next.O (c := c77) (keep := keepAt 77) (by kernel_rfl) (fun n => orcOf_cf _ _ n) (fun n => lpOk_of (bs := []) (by kernel_rfl) .nil) (fun _ => rfl) (fun _ _ => by kernel_rfl)
noncomputable def f77_s_l01Next.w : FnW E := fnW 77 f77_s_l01Next.P sg_f f77_s_l01Next.A f77_s_l01Next.F f77_s_l01Next.ok

def f19_s_NextUp : Nat → Nat → Option (Nat)
  | 0, _ => none
  | n + 1, x1 =>
    bd (f77_s_l01Next n x1) fun r2 =>
    let x3 : Nat := r2
    some x3
def f19_s_NextUp.P : List Arg := [⟨.val, ⟨false, [.leaf], [.flt .f32 0]⟩⟩]
def f19_s_NextUp.A : RAlt (Nat) := .one ⟨[⟨false, [.leaf], [.flt .f32 0]⟩], [none]⟩ sg_f
def f19_s_NextUp.F (n : Nat) (v : Nat) := f19_s_NextUp n v
noncomputable def f19_s_NextUp.O (n : Nat) : Orc := orcOf (E := E) [f77_s_l01Next.w] [] n
theorem f19_s_NextUp.ok : ∀ n v x, f19_s_NextUp.F n v = some x → evalFn E n 19 (flAs f19_s_NextUp.P (sg_f.pk v)) = some (f19_s_NextUp.A.enc x) :=
  fn_pure (modes := (fdAt 19).ms) (outs := (fdAt 19).os) (results := (fdAt 19).rs) f19_s_NextUp.O (c := c19) (keep := keepAt 19) (by kernel_rfl) (fun n => orcOf_cf _ _ n) (fun n => lpOk_of (bs := []) (by kernel_rfl) .nil) (fun _ => rfl) (fun _ _ => by kernel_rfl)
noncomputable def f19_s_NextUp.w : FnW E := fnW 19 f19_s_NextUp.P sg_f f19_s_NextUp.A f19_s_NextUp.F f19_s_NextUp.ok

def f78_s_l01Finite : Nat → Nat → Option (Bool)
  | 0, _ => none
  | n + 1, x1 =>
    some (feq FloatKind.f32 (fsub FloatKind.f32 x1 x1) 0)
def f78_s_l01Finite.P : List Arg := [⟨.val, ⟨false, [.leaf], [.flt .f32 0]⟩⟩]
def f78_s_l01Finite.A : RAlt (Bool) := .one ⟨[⟨false, [.leaf], [.bool false]⟩], [none]⟩ sg_b
def f78_s_l01Finite.F (n : Nat) (v : Nat) := f78_s_l01Finite n v
noncomputable def f78_s_l01Finite.O (n : Nat) : Orc := orcOf (E := E) [] [] n
theorem f78_s_l01Finite.ok : ∀ n v x, f78_s_l01Finite.F n v = some x → evalFn E n 78 (flAs f78_s_l01Finite.P (sg_f.pk v)) = some (f78_s_l01Finite.A.enc x) :=
  fn_pure (modes := (fdAt 78).ms) (outs := (fdAt 78).os) (results := (fdAt 78).rs) f78_s_l01Finite.O (c := c78) (keep := keepAt 78) (by kernel_rfl) (fun n => orcOf_cf _ _ n) (fun n => lpOk_of (bs := []) (by kernel_rfl) .nil) (fun _ => rfl) (fun _ _ => by kernel_rfl)
noncomputable def f78_s_l01Finite.w : FnW E := fnW 78 f78_s_l01Finite.P sg_f f78_s_l01Finite.A f78_s_l01Finite.F f78_s_l01Finite.ok

def f20_s_IsFinite : Nat → Nat → Option (Bool)
  | 0, _ => none
  | n + 1, x1 =>
    bd (f78_s_l01Finite n x1) fun r2 =>
    let b3 : Bool := r2
    some b3
def f20_s_IsFinite.P : List Arg := [⟨.val, ⟨false, [.leaf], [.flt .f32 0]⟩⟩]
def f20_s_IsFinite.A : RAlt (Bool) := .one ⟨[⟨false, [.leaf], [.bool false]⟩], [none]⟩ sg_b
def f20_s_IsFinite.F (n : Nat) (v : Nat) := f20_s_IsFinite n v
noncomputable def f20_s_IsFinite.O (n : Nat) : Orc := orcOf (E := E) [f78_s_l01Finite.w] [] n
theorem f20_s_IsFinite.ok : ∀ n v x, f20_s_IsFinite.F n v = some x → evalFn E n 20 (flAs f20_s_IsFinite.P (sg_f.pk v)) = some (f20_s_IsFinite.A.enc x) :=
  fn_pure (modes := (fdAt 20).ms) (outs := (fdAt 20).os) (results := (fdAt 20).rs) f20_s_IsFinite.O (c := c20) (keep := keepAt 20) (by kernel_rfl) (fun n => orcOf_cf _ _ n) (fun n => lpOk_of (bs := []) (by kernel_rfl) .nil) (fun _ => rfl) (fun _ _ => by kernel_rfl)
noncomputable def f20_s_IsFinite.w : FnW E := fnW 20 f20_s_IsFinite.P sg_f f20_s_IsFinite.A f20_s_IsFinite.F f20_s_IsFinite.ok

def f21_s_BitsOf : Nat → Nat → Option (Int)
  | 0, _ => none
  | n + 1, x1 =>
    bd (f79_s_l01Bits n x1) fun r2 =>
    let i3 : Int := r2
    some i3
def f21_s_BitsOf.P : List Arg := [⟨.val, ⟨false, [.leaf], [.flt .f32 0]⟩⟩]
def f21_s_BitsOf.A : RAlt (Int) := .one ⟨[⟨false, [.leaf], [.int .i64 0]⟩], [none]⟩ sg_i
def f21_s_BitsOf.F (n : Nat) (v : Nat) := f21_s_BitsOf n v
noncomputable def f21_s_BitsOf.O (n : Nat) : Orc := orcOf (E := E) [f79_s_l01Bits.w] [] n
theorem f21_s_BitsOf.ok : ∀ n v x, f21_s_BitsOf.F n v = some x → evalFn E n 21 (flAs f21_s_BitsOf.P (sg_f.pk v)) = some (f21_s_BitsOf.A.enc x) :=
  fn_pure (modes := (fdAt 21).ms) (outs := (fdAt 21).os) (results := (fdAt 21).rs) f21_s_BitsOf.O (c := c21) (keep := keepAt 21) (by kernel_rfl) (fun n => orcOf_cf _ _ n) (fun n => lpOk_of (bs := []) (by kernel_rfl) .nil) (fun _ => rfl) (fun _ _ => by kernel_rfl)
noncomputable def f21_s_BitsOf.w : FnW E := fnW 21 f21_s_BitsOf.P sg_f f21_s_BitsOf.A f21_s_BitsOf.F f21_s_BitsOf.ok

def f3_l_FnNarrowed : Nat → Nat → List T → Nat → List T → Option (Bool)
  | 0, _, _, _, _ => none
  | n + 1, n1, l2, n3, l4 =>
    bd (f15_l_b10Long n n1 l2 n3 l4) fun r5 =>
    let b6 : Bool := r5
    br b6 (
     some true) (
     bd (f16_s_B10Number n n1 l2) fun r7 =>
     let x8 : Nat := r7
     bd ((fltToFlt FloatKind.f32 x8 FloatKind.f64)) fun y9 =>
     bd (f18_i_NarrowNumber n y9) fun r10 =>
     let x11 : Nat := r10
     bd (f17_s_SameNumber n x11 x8) fun r12 =>
     let b13 : Bool := r12
     br (!b13) (
      some false) (
      bd (f19_s_NextUp n x8) fun r14 =>
      let x15 : Nat := r14
      bd (f20_s_IsFinite n x8) fun r16 =>
      let b17 : Bool := r16
      br (!b17) (
       some true) (
       bd (f20_s_IsFinite n x15) fun r18 =>
       let b19 : Bool := r18
       br (!b19) (
        some true) (
        bd ((fltToFlt FloatKind.f32 x8 FloatKind.f64)) fun y20 =>
        bd ((fltToFlt FloatKind.f32 x15 FloatKind.f64)) fun y21 =>
        let x22 : Nat := (fdiv FloatKind.f64 (fadd FloatKind.f64 y20 y21) 4611686018427387904)
        bd ((fltToFlt FloatKind.f32 x8 FloatKind.f64)) fun y23 =>
        let x24 : Nat := (fdiv FloatKind.f64 (fadd FloatKind.f64 y23 x22) 4611686018427387904)
        bd ((fltToFlt FloatKind.f32 x15 FloatKind.f64)) fun y25 =>
        let x26 : Nat := (fdiv FloatKind.f64 (fadd FloatKind.f64 y25 x22) 4611686018427387904)
        bd (f21_s_BitsOf n x8) fun r27 =>
        let i28 : Int := r27
        br ((Int.tmod i28 (2 : Int)) == (1 : Int)) (
         bd (f18_i_NarrowNumber n x22) fun r29 =>
         let x30 : Nat := r29
         br (feq FloatKind.f32 x30 x15) (
          bd (f18_i_NarrowNumber n x24) fun r31 =>
          let x32 : Nat := r31
          br (feq FloatKind.f32 x32 x8) (
           bd (f18_i_NarrowNumber n x26) fun r33 =>
           let x34 : Nat := r33
           some (feq FloatKind.f32 x34 x15)) (
           some false)) (
          some false)) (
         bd (f18_i_NarrowNumber n x22) fun r35 =>
         let x36 : Nat := r35
         br (feq FloatKind.f32 x36 x8) (
          bd (f18_i_NarrowNumber n x24) fun r37 =>
          let x38 : Nat := r37
          br (feq FloatKind.f32 x38 x8) (
           bd (f18_i_NarrowNumber n x26) fun r39 =>
           let x40 : Nat := r39
           some (feq FloatKind.f32 x40 x15)) (
           some false)) (
          some false))))))
def f3_l_FnNarrowed.P : List Arg := [⟨.val, ⟨false, [.sl .shr [.leaf]], [.lst 0 []]⟩⟩, ⟨.val, ⟨false, [.sl .shr [.leaf]], [.lst 0 []]⟩⟩]
def f3_l_FnNarrowed.A : RAlt (Bool) := .one ⟨[⟨false, [.leaf], [.bool false]⟩], [none, none]⟩ sg_b
def f3_l_FnNarrowed.F (n : Nat) (v : Nat × List T × Nat × List T) := f3_l_FnNarrowed n v.1 v.2.1 v.2.2.1 v.2.2.2
noncomputable def f3_l_FnNarrowed.O (n : Nat) : Orc := orcOf (E := E) [f15_l_b10Long.w, f16_s_B10Number.w, f18_i_NarrowNumber.w, f17_s_SameNumber.w, f19_s_NextUp.w, f20_s_IsFinite.w, f21_s_BitsOf.w] [] n
theorem f3_l_FnNarrowed.ok : ∀ n v x, f3_l_FnNarrowed.F n v = some x → evalFn E n 3 (flAs f3_l_FnNarrowed.P (sg_ll.pk v)) = some (f3_l_FnNarrowed.A.enc x) :=
  fn_pure (modes := (fdAt 3).ms) (outs := (fdAt 3).os) (results := (fdAt 3).rs) f3_l_FnNarrowed.O (c := c3) (keep := keepAt 3) (by kernel_rfl) (fun n => orcOf_cf _ _ n) (fun n => lpOk_of (bs := []) (by kernel_rfl) .nil) (fun _ => rfl) (fun _ _ => by kernel_rfl)
noncomputable def f3_l_FnNarrowed.w : FnW E := fnW 3 f3_l_FnNarrowed.P sg_ll f3_l_FnNarrowed.A f3_l_FnNarrowed.F f3_l_FnNarrowed.ok
end Go.Proofs.Ythgenpcoelihiaa.D
end
section
/- FnNarrowed, in plain Lean. -/
namespace Go.Proofs.Ythgenpcoelihiaa.D
open Go Go.Desk
set_option linter.unusedVariables false
theorem s_from (n l : Nat) (c : List T) : f71_s_l00From (n + 1) l c = some (l, c, 0, 0) := by rw [f71_s_l00From]
theorem s_next (n : Nat) {bs : List Int} (hb : Bytes bs) {a : Int} (h0 : 0 ≤ a) (h1 : a ≤ 1125899906842624) (sd : Int) :
    ∃ r sd', (0 ≤ r ∧ r ≤ 255) ∧ f111_s_l00Srcnext (n + 1) bs.length (its .u8 bs) a sd = some (r, bs.length, its .u8 bs, a + 1, sd') := by
  rw [f111_s_l00Srcnext]
  rw [show IntKind.i64.wrap (a + 1) = a + 1 by rw [wrap64] <;> omega]
  cases h : decide (a < (bs.length : Int))
  · simp only [br_f]
    cases decide (a + 1 ≤ (bs.length : Int))
    · exact ⟨_, _, and255 _, rfl⟩
    · exact ⟨0, _, by omega, rfl⟩
  · simp only [decide_eq_true_eq] at h
    obtain ⟨i, rfl⟩ := Int.eq_ofNat_of_zero_le h0
    have hi : i < bs.length := by omega
    have hr := hb (bs[i]) (List.getElem_mem _)
    simp only [br_t, in_dec hi, Int.toNat_natCast, okAt_its hi, Bool.and_self, gd_t, iAt_its]
    rw [show bs.getD i 0 = bs[i] by simp [List.getD, hi], show IntKind.i64.wrap bs[i] = bs[i] by rw [wrap64] <;> omega]
    cases decide ((i : Int) + 1 ≤ (bs.length : Int))
    · exact ⟨_, _, and255 _, rfl⟩
    · exact ⟨_, _, hr, rfl⟩
theorem s_pick (n : Nat) {bs : List Int} (hb : Bytes bs) {a : Int} (h0 : 0 ≤ a) (h1 : a ≤ 1125899906842622) (sd k : Int) :
    ∃ r a' sd', (0 ≤ r ∧ (1 < k → r < k) ∧ (k ≤ 1 → r = 0)) ∧ (a ≤ a' ∧ a' ≤ a + 2) ∧ f73_s_l00Srcpick (n + 2) bs.length (its .u8 bs) a sd k = some (r, bs.length, its .u8 bs, a', sd') := by
  rw [f73_s_l00Srcpick]
  by_cases hk : k ≤ 1
  · rw [decide_eq_true hk]; exact ⟨0, a, sd, by omega, by omega, rfl⟩
  rw [decide_eq_false hk]
  obtain ⟨r, s1, hr, e1⟩ := s_next n hb h0 (by omega) sd
  simp only [br_f, e1, bd_s]
  have hk0 : (!decide (k = 0)) = true := by simp; omega
  by_cases hk2 : k > 200
  · rw [decide_eq_true hk2]
    obtain ⟨r', s2, hr', e2⟩ := s_next n hb (a := a + 1) (by omega) (by omega) s1
    simp only [br_t, e2, bd_s, hk0, gd_t]
    rw [show IntKind.i64.wrap (r * 256) = r * 256 by rw [wrap64] <;> omega, show IntKind.i64.wrap (r * 256 + r') = r * 256 + r' by rw [wrap64] <;> omega]
    refine ⟨_, _, _, ?_, ?_, rfl⟩
    · rw [Int.tmod_eq_emod_of_nonneg (by omega)]
      have := Int.emod_nonneg (r * 256 + r') (show k ≠ 0 by omega)
      have := Int.emod_lt_of_pos (r * 256 + r') (show 0 < k by omega)
      omega
    · omega
  · rw [decide_eq_false hk2]
    simp only [br_f, hk0, gd_t]
    refine ⟨_, _, _, ?_, ?_, rfl⟩
    · rw [Int.tmod_eq_emod_of_nonneg (by omega)]
      have := Int.emod_nonneg r (show k ≠ 0 by omega)
      have := Int.emod_lt_of_pos r (show 0 < k by omega)
      omega
    · omega
theorem s_one (n : Nat) {bs : List Int} (hb : Bytes bs) {a : Int} (h0 : 0 ≤ a) (h1 : a ≤ 1125899906842622) (sd k : Int) :
    ∃ r a' sd', (a ≤ a' ∧ a' ≤ a + 2) ∧ f72_s_l00Srcone (n + 3) bs.length (its .u8 bs) a sd k = some (r, bs.length, its .u8 bs, a', sd') := by
  obtain ⟨r, a', s', -, ha, e⟩ := s_pick n hb h0 h1 sd k
  rw [f72_s_l00Srcone, e]
  exact ⟨_, _, _, ha, rfl⟩
theorem s_plain (n : Nat) {bs : List Int} (hb : Bytes bs) {a : Int} (h0 : 0 ≤ a) (h1 : a ≤ 1125899906842620) (sd : Int) :
    ∃ x a' sd', Plain x ∧ (a ≤ a' ∧ a' ≤ a + 4) ∧ f80_s_l01DrawPlain (n + 4) bs.length (its .u8 bs) a sd = some (x, bs.length, its .u8 bs, a', sd') := by
  obtain ⟨r, a1, s1, hr, ha, e⟩ := s_pick (n + 1) hb h0 (by omega) sd 129
  obtain ⟨b, a2, s2, ha2, e2⟩ := s_one n hb (a := a1) (by omega) (by omega) s1 4
  rw [f80_s_l01DrawPlain, e]
  simp only [bd_s, e2]
  rw [show IntKind.i64.wrap (r - 64) = r - 64 by rw [wrap64] <;> omega]
  cases b
  · exact ⟨_, a2, s2, ⟨r - 64, by omega, .inr rfl⟩, by omega, rfl⟩
  · exact ⟨_, a2, s2, ⟨r - 64, by omega, .inl rfl⟩, by omega, rfl⟩
theorem s_among (n : Nat) {bs : List Int} (hb : Bytes bs) {a : Int} (h0 : 0 ≤ a) (h1 : a ≤ 1125899906842622) (sd : Int) (L : List Int) (hL : 0 < L.length) :
    ∃ r a' sd', r ∈ L ∧ (a ≤ a' ∧ a' ≤ a + 2) ∧ f112_s_l00Srcamong (n + 3) bs.length (its .u8 bs) a sd L.length (its .i64 L) = some (r, bs.length, its .u8 bs, a', sd', L.length, its .i64 L) := by
  obtain ⟨r, a1, s1, hr, ha, e⟩ := s_pick n hb h0 h1 sd (L.length : Int)
  rw [f112_s_l00Srcamong, e]
  obtain ⟨i, rfl⟩ := Int.eq_ofNat_of_zero_le hr.1
  have hi : i < L.length := by
    by_cases h : (L.length : Int) ≤ 1
    · have := hr.2.2 h; omega
    · have := hr.2.1 (by omega); omega
  simp only [bd_s, in_dec hi, Int.toNat_natCast, okAt_its hi, Bool.and_self, gd_t, iAt_its]
  refine ⟨_, _, _, ?_, ha, rfl⟩
  rw [show L.getD i 0 = L[i] by simp [List.getD, hi]]
  exact List.getElem_mem _
theorem s_from32 (n : Nat) {i : Int} (h0 : 0 ≤ i) (h1 : i < 4294967296) : ∃ x, W32 x ∧ f74_s_l01From (n + 2) i = some x := by
  rw [f74_s_l01From]
  refine ⟨canon .f32 i.toNat, w32_canon (by omega), ?_⟩
  rw [u32_wrap h0 h1]
  show bd (if 0 ≤ i then some (canon .f32 i.toNat) else none) _ = _
  rw [if_pos h0]; rfl
theorem s_float (n : Nat) {bs : List Int} (hb : Bytes bs) {a : Int} (h0 : 0 ≤ a) (h1 : a ≤ 1125899906842600) (sd : Int) :
    ∃ x a' sd', W32 x ∧ (a ≤ a' ∧ a' ≤ a + 16) ∧ f75_s_l01DrawFloat (n + 5) bs.length (its .u8 bs) a sd = some (x, bs.length, its .u8 bs, a', sd') := by
  obtain ⟨b, a1, s1, ha1, e1⟩ := s_one (n + 1) hb h0 (by omega) sd 12
  rw [f75_s_l01DrawFloat, e1]
  simp only [bd_s, br_not]
  cases b
  · obtain ⟨x, a2, s2, hx, ha2, e2⟩ := s_plain n hb (a := a1) (by omega) (by omega) s1
    simp only [br_f, e2, bd_s]
    exact ⟨_, _, _, hx.w32, by omega, rfl⟩
  obtain ⟨q, a2, s2, -, ha2, e2⟩ := s_pick (n + 2) hb (a := a1) (by omega) (by omega) s1 4
  simp only [br_t, e2, bd_s]
  cases q == 0
  case true =>
    obtain ⟨r, a3, s3, hr, ha3, e3⟩ := s_among (n + 1) hb (a := a2) (by omega) (by omega) s2 [0, 2147483648, 2139095040, 4286578688, 2143289344, 1, 2139095039, 8388608, 8388607, 2147483649] (by decide)
    have hr' : 0 ≤ r ∧ r < 4294967296 := by simp only [List.mem_cons, List.not_mem_nil, or_false] at hr; omega
    obtain ⟨x, hx, e4⟩ := s_from32 (n + 2) hr'.1 hr'.2
    rw [br_t]
    refine ⟨x, a3, s3, hx, by omega, ?_⟩
    refine Eq.trans (congrArg (fun o => bd o _) e3) ?_
    simp only [bd_s, e4]
  cases q == 1
  case true =>
    obtain ⟨r, a3, s3, hr, ha3, e3⟩ := s_pick (n + 2) hb (a := a2) (by omega) (by omega) s2 65536
    obtain ⟨r', a4, s4, hr', ha4, e4⟩ := s_pick (n + 2) hb (a := a3) (by omega) (by omega) s3 65536
    obtain ⟨x, hx, e5⟩ := s_from32 (n + 2) (i := r * 65536 + r') (by omega) (by omega)
    simp only [br_f, br_t, e3, e4, bd_s]
    rw [show IntKind.i64.wrap (r * 65536) = r * 65536 by rw [wrap64] <;> omega, show IntKind.i64.wrap (r * 65536 + r') = r * 65536 + r' by rw [wrap64] <;> omega, e5]
    exact ⟨x, _, _, hx, by omega, rfl⟩
  cases q == 2
  case true =>
    obtain ⟨r, a3, s3, hr, ha3, e3⟩ := s_pick (n + 2) hb (a := a2) (by omega) (by omega) s2 65536
    obtain ⟨x, hx, e5⟩ := s_from32 (n + 2) (i := r * 65536) (by omega) (by omega)
    simp only [br_f, br_t, e3, bd_s]
    rw [show IntKind.i64.wrap (r * 65536) = r * 65536 by rw [wrap64] <;> omega, e5]
    exact ⟨x, _, _, hx, by omega, rfl⟩
  obtain ⟨x, a3, s3, hx, ha3, e3⟩ := s_plain n hb (a := a2) (by omega) (by omega) s2
  obtain ⟨r, a4, s4, hr, ha4, e4⟩ := s_among (n + 1) hb (a := a3) (by omega) (by omega) s3 [8388608, 2130706432, 1610612736, 536870912] (by decide)
  have hr' : 0 ≤ r ∧ r < 4294967296 := by simp only [List.mem_cons, List.not_mem_nil, or_false] at hr; omega
  obtain ⟨y, hy, e5⟩ := s_from32 (n + 2) hr'.1 hr'.2
  simp only [br_f, e3, bd_s]
  refine ⟨_, a4, s4, w32_fmul x y, by omega, ?_⟩
  refine Eq.trans (congrArg (fun o => bd o _) e4) ?_
  simp only [bd_s, e5]

theorem l_long10 (n : Nat) (bs cs : List Int) : f15_l_b10Long (n + 1) bs.length (its .u8 bs) cs.length (its .u8 cs) = some (decide (1048576 < bs.length ∨ 1048576 < cs.length)) := by
  rw [f15_l_b10Long]
  by_cases h : 1048576 < bs.length
  · rw [decide_eq_true (show (bs.length : Int) > 1048576 by omega), decide_eq_true (Or.inl h)]; rfl
  · rw [decide_eq_false (show ¬ (bs.length : Int) > 1048576 by omega), br_f]
    congr 1
    simp [h]; omega
theorem s_bits (n : Nat) {x : Nat} (h : W32 x) : f79_s_l01Bits (n + 2) x = some (x : Int) := by
  rw [f79_s_l01Bits, fne_nan]
  cases hn : isNaN .f32 x
  · have : xF32bits (n + 1) x = some (x : Int) := by simp [xF32bits, hn]
    have hx := h.1
    simp only [br_f, this, bd_s]
    rw [wrap64] <;> omega
  · rw [br_t, ← h.2, canon_nan hn]; rfl
theorem s_same1 (n : Nat) {x y : Nat} (hx : W32 x) (hy : W32 y) : f76_s_l01Same (n + 3) x y = some (x == y) := by
  rw [f76_s_l01Same, s_bits n hx]
  simp only [bd_s, s_bits n hy]
  congr 1
  rw [Bool.eq_iff_iff]; simp; constructor <;> omega
theorem s_same (n : Nat) {x y : Nat} (hx : W32 x) (hy : W32 y) : f17_s_SameNumber (n + 4) x y = some (x == y) := by
  rw [f17_s_SameNumber, s_same1 n hx hy]; rfl


theorem s_b10number (n : Nat) {bs : List Int} (hb : Bytes bs) : ∃ x, W32 x ∧ f16_s_B10Number (n + 6) bs.length (its .u8 bs) = some x := by
  obtain ⟨b, a1, s1, ha1, e1⟩ := s_one (n + 2) hb (a := 0) (by omega) (by omega) 0 2
  rw [f16_s_B10Number, s_from]
  simp only [bd_s, e1]
  cases b
  · obtain ⟨x, a2, s2, hx, ha2, e2⟩ := s_float n hb (a := a1) (by omega) (by omega) s1
    simp only [br_f, e2, bd_s]
    exact ⟨x, hx, rfl⟩
  · obtain ⟨r, a3, s3, hr, ha3, e3⟩ := s_pick (n + 3) hb (a := a1) (by omega) (by omega) s1 65536
    obtain ⟨r', a4, s4, hr', ha4, e4⟩ := s_pick (n + 3) hb (a := a3) (by omega) (by omega) s3 65536
    obtain ⟨x, hx, e5⟩ := s_from32 (n + 3) (i := r * 65536 + r') (by omega) (by omega)
    simp only [br_t, e3, e4, bd_s]
    rw [show IntKind.i64.wrap (r * 65536) = r * 65536 by rw [wrap64] <;> omega, show IntKind.i64.wrap (r * 65536 + r') = r * 65536 + r' by rw [wrap64] <;> omega, e5]
    exact ⟨x, hx, rfl⟩
theorem s_fromx (n : Nat) {i : Int} (h0 : 0 ≤ i) (h1 : i < 4294967296) : f74_s_l01From (n + 2) i = some (canon .f32 i.toNat) := by
  rw [f74_s_l01From, u32_wrap h0 h1]
  show bd (if 0 ≤ i then some (canon .f32 i.toNat) else none) _ = _
  rw [if_pos h0]; rfl
theorem s_bitsof (n : Nat) {x : Nat} (h : W32 x) : f21_s_BitsOf (n + 3) x = some (x : Int) := by
  rw [f21_s_BitsOf, s_bits n h]; rfl

/-- a whole number and a quarter, cut -/
theorem cut_quarter (s : Bool) {M k d : Nat} (hd : 2 ≤ d) (hk : k = 1 ∨ k = 2 ∨ k = 3) : Ieee.Toward.cut .even s ((4 * M + k) * 2 ^ (d - 2)) d = M + (if k = 3 ∨ (k = 2 ∧ M % 2 = 1) then 1 else 0) := by
  obtain ⟨c, rfl⟩ : ∃ c, d = c + 2 := ⟨d - 2, by omega⟩
  rw [Nat.add_sub_cancel]
  have hp : 0 < 2 ^ c := Nat.two_pow_pos c
  have hn : 2 ^ c ≤ (4 * M + k) * 2 ^ c := Nat.le_mul_of_pos_left _ (by omega)
  have hlog : c ≤ ((4 * M + k) * 2 ^ c).log2 := (Nat.le_log2 (by omega)).2 hn
  have hmin : min (c + 2) (((4 * M + k) * 2 ^ c).log2 + 2) = c + 2 := by omega
  have hgap : 1 <<< (c + 2) = 4 * 2 ^ c := by rw [Nat.shiftLeft_eq, Nat.pow_add]; omega
  unfold Ieee.Toward.cut
  simp only [hmin, hgap]
  have hmul : (4 * M + k) * 2 ^ c = M * (4 * 2 ^ c) + k * 2 ^ c := by rw [Nat.add_mul, Nat.mul_comm 4 M, Nat.mul_assoc]
  have hlt : k * 2 ^ c < 4 * 2 ^ c := Nat.mul_lt_mul_of_pos_right (by omega) hp
  have hdiv : (4 * M + k) * 2 ^ c / (4 * 2 ^ c) = M := by
    rw [hmul, Nat.mul_comm M, Nat.mul_add_div (by omega), Nat.div_eq_of_lt hlt, Nat.add_zero]
  have hmod : (4 * M + k) * 2 ^ c % (4 * 2 ^ c) = k * 2 ^ c := by
    rw [hmul, Nat.mul_comm M, Nat.mul_add_mod, Nat.mod_eq_of_lt hlt]
  rw [hdiv, hmod]
  congr 1
  rcases hk with rfl | rfl | rfl
  · rw [if_neg (by omega), decide_eq_false (show ¬ 4 * 2 ^ c < 2 * (1 * 2 ^ c) by omega), show (4 * 2 ^ c == 2 * (1 * 2 ^ c)) = false by simp; omega]; rfl
  · rw [decide_eq_false (show ¬ 4 * 2 ^ c < 2 * (2 * 2 ^ c) by omega), show (4 * 2 ^ c == 2 * (2 * 2 ^ c)) = true by simp; omega]
    by_cases h : M % 2 = 1
    · rw [if_pos (.inr ⟨rfl, h⟩), h]; rfl
    · rw [if_neg (by omega), show (M % 2 == 1) = false by simpa using h]; rfl
  · rw [if_pos (.inl rfl), decide_eq_true (show 4 * 2 ^ c < 2 * (3 * 2 ^ c) by omega)]; rfl
theorem two_logs {m n : Nat} {e i : Int} (hm : m ≠ 0) (hn : n ≠ 0) (h : mv m e = mv n i) : e + (m.log2 : Int) = i + (n.log2 : Int) := by
  have low : ∀ (m : Nat) (e : Int), m ≠ 0 → p2 (e + (m.log2 : Int)) ≤ mv m e := by
    intro m e hm
    have : 2 ^ m.log2 ≤ m := Nat.log2_self_le hm
    have h := (mv_le (e := e)).2 this
    rwa [mv_pow] at h
  have high : ∀ (m : Nat) (e : Int), mv m e < p2 (e + (m.log2 : Int) + 1) := by
    intro m e
    have : m < 2 ^ (m.log2 + 1) := Nat.lt_log2_self
    have h := (mv_lt (e := e)).2 this
    rw [mv_pow] at h
    rw [show e + (m.log2 : Int) + 1 = e + ((m.log2 + 1 : Nat) : Int) by omega]; exact h
  have a1 := low m e hm
  have a2 := high m e
  have b1 := low n i hn
  have b2 := high n i
  rw [h] at a1 a2
  rcases Int.lt_trichotomy (e + (m.log2 : Int)) (i + (n.log2 : Int)) with c | c | c
  · have := p2_le (show e + (m.log2 : Int) + 1 ≤ i + (n.log2 : Int) by omega); grind
  · exact c
  · have := p2_le (show i + (n.log2 : Int) + 1 ≤ e + (m.log2 : Int) by omega); grind
theorem binade64 : FloatKind.f64.format.binade = 4503599627370496 := by decide
theorem least64 : FloatKind.f64.format.leastPlace = -1074 := by decide
theorem binade32' : FloatKind.f32.format.binade = 8388608 := by decide
/-- between two neighbours, the nearer one, or the even one -/
theorem narrowed {s : Bool} {r M : Nat} {E : Int} (hd : FloatKind.f32.decode (FloatKind.f32.format.word s r) = .number s M E) (hr : r + 1 < 2139095040) {w k : Nat} {s' : Bool} {m : Nat} {e : Int} (hw : FloatKind.f64.decode w = .number s' m e) (hk : k = 1 ∨ k = 2 ∨ k = 3) (hv : sg s' (mv m e) = sg s (mv (4 * M + k) (E - 2))) :
    fltToFlt .f64 w .f32 = some (FloatKind.f32.format.word s (r + (if k = 3 ∨ (k = 2 ∧ r % 2 = 1) then 1 else 0))) := by
  obtain ⟨a1, a2, a3, a4, a5⟩ := read_norm hd
  obtain ⟨b1, b2, b3, b4, b5⟩ := read_norm hw
  rw [binade64] at b1 b3
  rw [least64] at b2 b3
  rw [binade32'] at a1 a3 a4
  rw [least32] at a2 a3 a4
  have hsw : FloatKind.f32.format.signWeight = 2147483648 := rfl
  have hrM : r = (E - -149).toNat * 8388608 + M := by
    have hmod : FloatKind.f32.format.word s r % 2147483648 = r := by
      unfold Ieee.Format.word; rw [hsw]; split <;> omega
    rw [hsw, hmod] at a4; exact a4
  have hpos : 0 < mv (4 * M + k) (E - 2) := by
    have := (mv_lt (e := E - 2)).2 (show 0 < 4 * M + k by omega)
    rwa [mv_zero] at this
  have hmn := mv_nonneg m e
  obtain ⟨rfl, hmv⟩ : s' = s ∧ mv m e = mv (4 * M + k) (E - 2) := by
    cases s <;> cases s' <;> simp only [sg_true, sg_false] at hv
    · exact ⟨rfl, hv⟩
    · exfalso; grind
    · exfalso; grind
    · exact ⟨rfl, by grind⟩
  have hm0 : m ≠ 0 := by
    intro h; rw [h, mv_zero] at hmv; grind
  have hlogs := two_logs hm0 (show 4 * M + k ≠ 0 by omega) hmv
  have hlm : m.log2 < 53 := (Nat.log2_lt hm0).2 (by omega)
  have hlM : (4 * M + k).log2 < 26 := (Nat.log2_lt (by omega)).2 (by omega)
  have hlast : max (e + (m.log2 : Int) - (FloatKind.f32.format.fractionBits : Int)) FloatKind.f32.format.leastPlace = E := by
    rw [least32, show ((FloatKind.f32.format.fractionBits : Nat) : Int) = 23 from rfl, hlogs]
    by_cases hE : E = -149
    · omega
    · have h1 := a3 (by omega)
      have h2 : 25 ≤ (4 * M + k).log2 := (Nat.le_log2 (by omega)).2 (by omega)
      omega
  have heE : e ≤ E - 2 := by
    by_cases he : e = -1074
    · omega
    · have h1 := b3 (by omega)
      have h2 : 52 ≤ m.log2 := (Nat.le_log2 hm0).2 (by omega)
      omega
  have hmm : m = (4 * M + k) * 2 ^ ((E - e).toNat - 2) := by
    have h1 : mv (4 * M + k) (E - 2) = mv ((4 * M + k) * 2 ^ ((E - e).toNat - 2)) e := by
      rw [mv_shift, show e + (((E - e).toNat - 2 : Nat) : Int) = E - 2 by omega]
    rw [h1] at hmv
    have h2 := mv_le.1 (hmv ▸ Rat.le_refl : mv m e ≤ mv ((4 * M + k) * 2 ^ ((E - e).toNat - 2)) e)
    have h3 := mv_le.1 (hmv ▸ Rat.le_refl : mv ((4 * M + k) * 2 ^ ((E - e).toNat - 2)) e ≤ mv m e)
    omega
  have hpar : M % 2 = r % 2 := by omega
  have hinf : FloatKind.f32.format.infRung = 2139095040 := rfl
  obtain ⟨b, hb⟩ : ∃ b, b = (if k = 3 ∨ (k = 2 ∧ r % 2 = 1) then 1 else 0) := ⟨_, rfl⟩
  have hb1 : b ≤ 1 := by rw [hb]; split <;> omega
  rw [← hb]
  have hnear : FloatKind.f32.encode (.number s' m e) = FloatKind.f32.format.word s' (r + b) := by
    show FloatKind.f32.format.nearest s' m e = _
    unfold Ieee.Format.nearest
    rw [if_neg hm0]
    simp only [hlast]
    have hcut := cut_quarter s' (M := M) (d := (E - e).toNat) (by omega) hk
    rw [show (e - E).toNat = 0 by omega, Nat.shiftLeft_zero, least32, hinf, binade32']
    rw [← hmm] at hcut
    have h1 : (E - -149).toNat * 8388608 + (M + b) = r + b := by rw [hrM, Nat.add_assoc]
    have h2 : r + b ≤ 2139095040 := by omega
    rw [hcut, hpar, ← hb, h1, Nat.min_eq_left h2]
  unfold fltToFlt
  rw [if_neg (by decide), hw]
  simp only [hnear]
  have hfin : (FloatKind.f32.decode (FloatKind.f32.format.word s' (r + b))).isInfinity = false := by
    cases hq : FloatKind.f32.decode (FloatKind.f32.format.word s' (r + b)) with
    | infinity t =>
      have h1 := (read_inf hq).1
      have h2 : magOf .f32 (FloatKind.f32.format.word s' (r + b)) = r + b := by
        unfold magOf Ieee.Format.word; rw [hsw]; split <;> omega
      rw [h2, hinf] at h1; omega
    | nan _ _ => rfl
    | number _ _ _ => rfl
  rw [hfin]; rfl
/-- half of a sum, exact -/
theorem halved {s : Bool} {x y A B : Nat} {F : Int} (hx : Val .f64 x (sg s (mv A F))) (hy : Val .f64 y (sg s (mv B F))) (h : A + B ≤ 9007199254740992) (hF : -1073 ≤ F) (hF2 : F ≤ 200) : Val .f64 (fdiv .f64 (fadd .f64 x y) 4611686018427387904) (sg s (mv (A + B) (F - 1))) := by
  have hb : 2 * FloatKind.f64.format.binade = 9007199254740992 := by decide
  have hr : Rep0 .f64 (mv (A + B) F) := ⟨_, _, by omega, by rw [least64]; omega, rfl⟩
  have hr2 : Rep0 .f64 (mv (A + B) (F - 1)) := ⟨_, _, by omega, by rw [least64]; omega, rfl⟩
  have top : ∀ F : Int, F ≤ 200 → mv (A + B) F < p2 (topE .f64) := by
    intro F hF
    have h1 : mv (A + B) F ≤ mv (2 ^ 53) F := mv_le.2 (by omega)
    rw [mv_pow] at h1
    exact rlt h1 (p2_lt (show F + ((53 : Nat) : Int) < 1024 by omega))
  have hsum : sg s (mv A F) + sg s (mv B F) = sg s (mv (A + B) F) := by
    rw [mv_add]; cases s <;> simp only [sg_true, sg_false] <;> grind
  have hn := mv_nonneg (A + B) F
  have hn2 := mv_nonneg (A + B) (F - 1)
  obtain ⟨R, r1, r2⟩ := add_val hx hy hr (top F hF2) (by rw [hsum]; cases s <;> simp only [sg_true, sg_false] <;> grind) (by rw [hsum]; cases s <;> simp only [sg_true, sg_false] <;> grind)
  rw [hsum] at r2
  have v1 := r1.near_eq r2 ⟨s, _, hr, rfl⟩
  have hhalf : sg s (mv (A + B) F) / 2 = sg s (mv (A + B) (F - 1)) := by
    have h1 := p2_add (F - 1) 1
    rw [p2_one, show F - 1 + 1 = F by omega] at h1
    have h2 : mv (A + B) F = mv (A + B) (F - 1) * 2 := by unfold mv; rw [h1]; grind
    rw [h2]; cases s <;> simp only [sg_true, sg_false] <;> grind
  obtain ⟨Q, q1, q2⟩ := div_val v1 val_two64 (by decide) hr2 (top (F - 1) (by omega)) (by rw [hhalf]; cases s <;> simp only [sg_true, sg_false] <;> grind) (by rw [hhalf]; cases s <;> simp only [sg_true, sg_false] <;> grind)
  rw [hhalf] at q2
  exact q1.near_eq q2 ⟨s, _, hr2, rfl⟩
theorem word_mod {s : Bool} {r : Nat} (hr : r < 2147483648) : FloatKind.f32.format.word s r % 2147483648 = r ∧ FloatKind.f32.format.word s r / 2147483648 % 2 = (if s then 1 else 0) := by
  have hsw : FloatKind.f32.format.signWeight = 2147483648 := rfl
  unfold Ieee.Format.word
  rw [hsw]
  cases s
  · simp; omega
  · simp; omega
theorem read_word {s : Bool} {r : Nat} (hr : r < 2139095040) : ∃ M E, FloatKind.f32.decode (FloatKind.f32.format.word s r) = .number s M E := by
  obtain ⟨w1, w2⟩ := word_mod (s := s) (r := r) (by omega)
  have hf : fin32 (FloatKind.f32.format.word s r) = true := by unfold fin32; rw [w1]; exact decide_eq_true hr
  obtain ⟨t, m, e, h⟩ := fin_read hf
  have h5 := (read_norm h).2.2.2.2
  rw [show FloatKind.f32.format.signWeight = 2147483648 from rfl, w2] at h5
  have : t = s := by rw [← h5]; cases s <;> rfl
  rw [this] at h
  exact ⟨m, e, h⟩
theorem neighbour {s : Bool} {r M : Nat} {E : Int} (hd : FloatKind.f32.decode (FloatKind.f32.format.word s r) = .number s M E) (hr : r + 1 < 2139095040) : Val .f32 (FloatKind.f32.format.word s (r + 1)) (sg s (mv (M + 1) E)) := by
  obtain ⟨M', E', hd'⟩ := read_word (s := s) (r := r + 1) hr
  have hv := read_val hd'
  obtain ⟨a1, a2, a3, a4, -⟩ := read_norm hd
  obtain ⟨b1, b2, b3, b4, -⟩ := read_norm hd'
  rw [binade32'] at a1 a3 a4 b1 b3 b4
  rw [least32] at a2 a3 a4 b2 b3 b4
  rw [show FloatKind.f32.format.signWeight = 2147483648 from rfl, (word_mod (by omega)).1] at a4 b4
  have hcase : (E' = E ∧ M' = M + 1) ∨ (E' = E + 1 ∧ M' = 8388608 ∧ M + 1 = 16777216) := by
    obtain ⟨a, ha⟩ := Int.eq_ofNat_of_zero_le (show 0 ≤ E - -149 by omega)
    obtain ⟨b, hb⟩ := Int.eq_ofNat_of_zero_le (show 0 ≤ E' - -149 by omega)
    rw [ha, Int.toNat_natCast] at a4
    rw [hb, Int.toNat_natCast] at b4
    have ha0 : 0 < a → 8388608 ≤ M := fun h => a3 (by omega)
    have hb0 : 0 < b → 8388608 ≤ M' := fun h => b3 (by omega)
    have : (b = a ∧ M' = M + 1) ∨ (b = a + 1 ∧ M' = 8388608 ∧ M + 1 = 16777216) := by omega
    omega
  rcases hcase with ⟨rfl, rfl⟩ | ⟨rfl, rfl, h⟩
  · exact hv
  · have e1 : mv (M + 1) E = mv 8388608 (E + 1) := by
      rw [h, show 16777216 = 8388608 * 2 ^ 1 by decide, mv_shift]; rfl
    rw [e1]; exact hv
theorem single_bounds {x : Nat} {s : Bool} {m : Nat} {e : Int} (h : FloatKind.f32.decode x = .number s m e) : m < 16777216 ∧ -149 ≤ e ∧ e ≤ 104 := by
  obtain ⟨h1, h2, h3⟩ := single_finite (x := x) h
  exact ⟨h1, h2, by omega⟩
theorem around {s : Bool} {r M : Nat} {E : Int} (hd : FloatKind.f32.decode (FloatKind.f32.format.word s r) = .number s M E) (hr : r + 1 < 2139095040) {x y A B : Nat} (hx : Val .f32 x (sg s (mv A E))) (hy : Val .f32 y (sg s (mv B E))) (hAB : (A = M ∧ B = M + 1) ∨ (A = M + 1 ∧ B = M)) (hpar : x % 2 = (r + (A - M)) % 2) :
    ∃ z1 z2 z3, fltToFlt .f64 (fdiv .f64 (fadd .f64 (wide x) (wide y)) 4611686018427387904) .f32 = some z1 ∧ feq .f32 z1 (if x % 2 = 1 then y else x) = true ∧
      fltToFlt .f64 (fdiv .f64 (fadd .f64 (wide x) (fdiv .f64 (fadd .f64 (wide x) (wide y)) 4611686018427387904)) 4611686018427387904) .f32 = some z2 ∧ feq .f32 z2 x = true ∧
      fltToFlt .f64 (fdiv .f64 (fadd .f64 (wide y) (fdiv .f64 (fadd .f64 (wide x) (wide y)) 4611686018427387904)) 4611686018427387904) .f32 = some z3 ∧ feq .f32 z3 y = true := by
  obtain ⟨s1, s2, s3⟩ := single_bounds hd
  have hlo := read_val hd
  have hhi := neighbour hd hr
  have dbl : ∀ N : Nat, mv N E = mv (N * 2) (E - 1) := by
    intro N
    rw [show N * 2 = N * 2 ^ 1 by omega, mv_shift, show E - 1 + ((1 : Nat) : Int) = E by omega]
  have wx := wide_val hx
  have wy := wide_val hy
  have mid := halved wx wy (by omega) (by omega) (by omega)
  rw [show A + B = 2 * M + 1 by omega] at mid
  have wx2 := wx
  have wy2 := wy
  rw [dbl A] at wx2
  rw [dbl B] at wy2
  have low := halved wx2 mid (by omega) (by omega) (by omega)
  have high := halved wy2 mid (by omega) (by omega) (by omega)
  have mid2 : sg s (mv (2 * M + 1) (E - 1)) = sg s (mv (4 * M + 2) (E - 2)) := by
    have : mv (2 * M + 1) (E - 1) = mv ((2 * M + 1) * 2 ^ 1) (E - 2) := by rw [mv_shift, show E - 2 + ((1 : Nat) : Int) = E - 1 by omega]
    rw [this, show (2 * M + 1) * 2 ^ 1 = 4 * M + 2 by omega]
  rw [show E - 1 - 1 = E - 2 by omega] at low high
  obtain ⟨t1, m1, e1, d1, v1, -⟩ := mid
  obtain ⟨t2, m2, e2, d2, v2, -⟩ := low
  obtain ⟨t3, m3, e3, d3, v3, -⟩ := high
  have n1 := narrowed hd hr d1 (k := 2) (by omega) (by rw [← v1, mid2])
  have val : ∀ b : Nat, b ≤ 1 → Val .f32 (FloatKind.f32.format.word s (r + b)) (sg s (mv (M + b) E)) := by
    intro b hb
    rcases Nat.eq_zero_or_pos b with h | h
    · subst h; exact hlo
    · obtain rfl : b = 1 := by omega
      exact hhi
  refine ⟨_, _, _, n1, ?_, narrowed hd hr d2 (k := 1 + 2 * (A - M)) (by omega) (by rw [← v2]; congr 2; omega), ?_, narrowed hd hr d3 (k := 1 + 2 * (B - M)) (by omega) (by rw [← v3]; congr 2; omega), ?_⟩
  · have hbit : (if (2 : Nat) = 3 ∨ (2 = 2 ∧ r % 2 = 1) then 1 else 0) = r % 2 := by split <;> omega
    rw [hbit]
    have hv := val (r % 2) (by omega)
    by_cases h : x % 2 = 1
    · rw [if_pos h]
      refine (feq_val hv hy).2 ?_
      rw [show B = M + r % 2 by omega]
    · rw [if_neg h]
      refine (feq_val hv hx).2 ?_
      rw [show A = M + r % 2 by omega]
  · have hbit : (if 1 + 2 * (A - M) = 3 ∨ (1 + 2 * (A - M) = 2 ∧ r % 2 = 1) then 1 else 0) = A - M := by split <;> omega
    rw [hbit]
    refine (feq_val (val (A - M) (by omega)) hx).2 ?_
    rw [show M + (A - M) = A by omega]
  · have hbit : (if 1 + 2 * (B - M) = 3 ∨ (1 + 2 * (B - M) = 2 ∧ r % 2 = 1) then 1 else 0) = B - M := by split <;> omega
    rw [hbit]
    refine (feq_val (val (B - M) (by omega)) hy).2 ?_
    rw [show M + (B - M) = B by omega]
theorem tells {x : Nat} (hw : W32 x) (hf : fin32 x = true) (hg : fin32 (nextM x) = true) :
    ∃ z1 z2 z3, fltToFlt .f64 (fdiv .f64 (fadd .f64 (wide x) (wide (nextM x))) 4611686018427387904) .f32 = some z1 ∧ feq .f32 z1 (if x % 2 = 1 then nextM x else x) = true ∧
      fltToFlt .f64 (fdiv .f64 (fadd .f64 (wide x) (fdiv .f64 (fadd .f64 (wide x) (wide (nextM x))) 4611686018427387904)) 4611686018427387904) .f32 = some z2 ∧ feq .f32 z2 x = true ∧
      fltToFlt .f64 (fdiv .f64 (fadd .f64 (wide (nextM x)) (fdiv .f64 (fadd .f64 (wide x) (wide (nextM x))) 4611686018427387904)) 4611686018427387904) .f32 = some z3 ∧ feq .f32 z3 (nextM x) = true := by
  have hx := hw.1
  have hn := fin_num hf
  have hf' : x % 2147483648 < 2139095040 := of_decide_eq_true hf
  have wf : ∀ r, FloatKind.f32.format.word false r = r := fun r => by simp [Ieee.Format.word]
  have wt : ∀ r, FloatKind.f32.format.word true r = r + 2147483648 := fun r => by
    unfold Ieee.Format.word; rw [show FloatKind.f32.format.signWeight = 2147483648 from rfl]; simp; omega
  have hnext : nextM x = if x % 2147483648 = 0 then 1 else if x < 2147483648 then x + 1 else x - 1 := by
    unfold nextM; rw [hn, if_neg (by decide), if_neg (by omega)]
  rw [hnext] at hg ⊢
  by_cases h0 : x % 2147483648 = 0
  · rw [if_pos h0] at hg ⊢
    have hd : FloatKind.f32.decode (FloatKind.f32.format.word false 0) = .number false 0 (-149) := by decide
    have hvx : Val .f32 x (sg false (mv 0 (-149))) := by
      rw [mv_zero]
      rcases (show x = 0 ∨ x = 2147483648 by omega) with rfl | rfl
      · exact val_zero .f32
      · exact val_mzero
    have hvy : Val .f32 1 (sg false (mv 1 (-149))) := neighbour hd (by omega)
    exact around hd (by omega) hvx hvy (.inl ⟨rfl, rfl⟩) (by omega)
  · rw [if_neg h0] at hg ⊢
    by_cases h1 : x < 2147483648
    · rw [if_pos h1] at hg ⊢
      have hg' : (x + 1) % 2147483648 < 2139095040 := of_decide_eq_true hg
      obtain ⟨M, E, hd⟩ := read_word (s := false) (r := x) (by omega)
      have hvx := read_val hd
      have hvy := neighbour hd (by omega)
      rw [wf] at hvx hvy
      exact around hd (by omega) hvx hvy (.inl ⟨rfl, rfl⟩) (by omega)
    · rw [if_neg h1] at hg ⊢
      have hg' : (x - 1) % 2147483648 < 2139095040 := of_decide_eq_true hg
      obtain ⟨r, hr⟩ : ∃ r, x = (r + 1) + 2147483648 := ⟨x - 2147483648 - 1, by omega⟩
      obtain ⟨M, E, hd⟩ := read_word (s := true) (r := r) (by omega)
      have hvy := read_val hd
      have hvx := neighbour hd (by omega)
      rw [wt] at hvx hvy
      rw [← hr] at hvx
      rw [show r + 2147483648 = x - 1 by omega] at hvy
      exact around hd (by omega) hvx hvy (.inr ⟨rfl, rfl⟩) (by omega)
theorem s_next32 (n : Nat) {x : Nat} (h : W32 x) : f77_s_l01Next (n + 3) x = some (nextM x) := by
  have hx := h.1
  rw [f77_s_l01Next, s_bits n h]
  simp only [bd_s, fne_nan]
  unfold nextM
  cases hn : isNaN .f32 x
  · have h1 := num_mag hn
    have h0 : isNaN .f32 0 = false := by decide
    have k0 : key .f32 0 = 0 := by decide
    have hk := key32 hx
    simp only [br_f, Bool.false_eq_true, if_false]
    have f2 : feq .f32 x 0 = decide (x % 2147483648 = 0) := by
      rw [feq_key]; unfold num2; rw [hn, h0, k0, hk, Bool.eq_iff_iff]; simp; split <;> omega
    by_cases e1 : x = 2139095040
    · rw [if_pos e1, show ((x : Int) == 2139095040) = true by simp; omega]; rfl
    rw [if_neg e1, show ((x : Int) == 2139095040) = false by simp; omega, br_f, f2]
    by_cases e2 : x % 2147483648 = 0
    · rw [decide_eq_true e2, if_pos e2, br_t, s_fromx n (by omega) (by omega)]
      have : canon .f32 (Int.toNat 1) = 1 := by decide
      rw [this]; rfl
    rw [decide_eq_false e2, if_neg e2, br_f]
    have f4 : fgt .f32 x 0 = decide (x < 2147483648) := by
      rw [fgt_key]; unfold num2; rw [hn, h0, k0, hk, Bool.eq_iff_iff]; simp; split <;> omega
    rw [f4]
    by_cases e3 : x < 2147483648
    · rw [decide_eq_true e3, if_pos e3, br_t, show IntKind.i64.wrap ((x : Int) + 1) = ((x + 1 : Nat) : Int) by rw [wrap64] <;> omega, s_fromx n (by omega) (by omega), Int.toNat_natCast, canon_num (show isNaN .f32 (x + 1) = false by rw [nan32]; simp; omega)]
      rfl
    · rw [decide_eq_false e3, if_neg e3, br_f, show IntKind.i64.wrap ((x : Int) - 1) = ((x - 1 : Nat) : Int) by rw [wrap64] <;> omega, s_fromx n (by omega) (by omega), Int.toNat_natCast, canon_num (show isNaN .f32 (x - 1) = false by rw [nan32]; simp; omega)]
      rfl
  · have : x = qnan .f32 := by have := h.2; rw [canon_nan hn] at this; exact this.symm
    rw [br_t, if_pos rfl, ← this]
theorem exact_ (cs : List Int) (hc : ∀ b ∈ cs, GoodI .u8 b) (lc : cs.length ≤ maxLen) (ms : List Int) (hm : ∀ b ∈ ms, GoodI .u8 b) (lm : ms.length ≤ maxLen) : ∃ n, f3_l_FnNarrowed n cs.length (its .u8 cs) ms.length (its .u8 ms) = some true := by
  refine ⟨1000, ?_⟩
  suffices h : ∀ n, f3_l_FnNarrowed (n + 500) cs.length (its .u8 cs) ms.length (its .u8 ms) = some true from h 500
  intro n
  rw [f3_l_FnNarrowed, l_long10]
  cases hlong : decide (1048576 < cs.length ∨ 1048576 < ms.length)
  case true => rfl
  obtain ⟨x, hx, e1⟩ := s_b10number (n + 493) (bytes_of hc)
  have e1 : f16_s_B10Number (n + 499) cs.length (its .u8 cs) = some x := e1
  have nar : ∀ w, f18_i_NarrowNumber (n + 499) w = fltToFlt .f64 w .f32 := by
    intro w; rw [f18_i_NarrowNumber]; cases fltToFlt .f64 w .f32 <;> rfl
  have fin : ∀ w, f20_s_IsFinite (n + 499) w = some (fin32 w) := by
    intro w; rw [f20_s_IsFinite, f78_s_l01Finite, sub_finite]; rfl
  have next : f19_s_NextUp (n + 499) x = some (nextM x) := by
    rw [f19_s_NextUp, s_next32 (n + 495) hx]; rfl
  have bits : f21_s_BitsOf (n + 499) x = some (x : Int) := s_bitsof (n + 496) hx
  have back : fltToFlt .f64 (wide x) .f32 = some x := by
    cases hn : isNaN .f32 x
    · exact narrow_wide hx.1 hn
    · have : x = qnan .f32 := by have := hx.2; rw [canon_nan hn] at this; exact this.symm
      rw [this]; decide
  have same : f17_s_SameNumber (n + 499) x x = some true := by
    have := s_same (n + 495) hx hx
    simpa using this
  simp only [br_f, bd_s, e1, fltToFlt_wide, nar, back, same, br_not, br_t, next, fin]
  cases hf : fin32 x
  case false => rfl
  cases hg : fin32 (nextM x)
  case false => rfl
  obtain ⟨z1, z2, z3, a1, a2, a3, a4, a5, a6⟩ := tells hx hf hg
  simp only [br_t, bits, bd_s, a1, a3, a4, a5, a6]
  have hm : Int.tmod (x : Int) 2 = ((x % 2 : Nat) : Int) := by
    rw [Int.tmod_eq_emod_of_nonneg (by omega)]; omega
  rw [hm]
  by_cases h : x % 2 = 1
  · rw [if_pos h] at a2
    rw [h, a2]; rfl
  · rw [if_neg h] at a2
    rw [show x % 2 = 0 by omega, a2]; rfl
theorem law3 : ∀ args, LawArgs E Try.f3.params.toList args → ∃ N os, evalFn E N 3 args = some ⟨[⟨false, [.leaf], [.bool true]⟩], os⟩ := by
  intro args h0
  have hp : Try.f3.params.toList = [22, 22] := by kernel_rfl
  rw [hp] at h0
  obtain ⟨ts0, r0, rfl, hw0, h1⟩ := h0.cons_inv (d := ⟨false, 1, 24, [.sl .own [.leaf]], [.lst 0 []], .slc 5⟩) (by kernel_rfl)
  obtain ⟨n0, cs0, rfl, gl0, hs0⟩ := hw0.slc_inv (e := 5) (d := ⟨false, 1, 24, [.sl .own [.leaf]], [.lst 0 []], .slc 5⟩) (by kernel_rfl) rfl
  obtain ⟨a0, rfl, rfl, g0⟩ := hs0.ints (k := .u8) (d := ⟨false, 1, 1, [.leaf], [.int .u8 0], .int .u8⟩) (by kernel_rfl) rfl
  obtain ⟨ts1, r1, rfl, hw1, h2⟩ := h1.cons_inv (d := ⟨false, 1, 24, [.sl .own [.leaf]], [.lst 0 []], .slc 5⟩) (by kernel_rfl)
  obtain ⟨n1, cs1, rfl, gl1, hs1⟩ := hw1.slc_inv (e := 5) (d := ⟨false, 1, 24, [.sl .own [.leaf]], [.lst 0 []], .slc 5⟩) (by kernel_rfl) rfl
  obtain ⟨a1, rfl, rfl, g1⟩ := hs1.ints (k := .u8) (d := ⟨false, 1, 1, [.leaf], [.int .u8 0], .int .u8⟩) (by kernel_rfl) rfl
  obtain rfl := h2.nil_inv
  obtain ⟨N, hN⟩ := exact_ a0 g0 gl0 a1 g1 gl1
  exact ⟨N, _, f3_l_FnNarrowed.ok N (a0.length, its .u8 a0, a1.length, its .u8 a1) true hN⟩


end Go.Proofs.Ythgenpcoelihiaa.D
end
section
/- FnNarrowed holds: for every input the law returns true, and its arguments read as before. -/
namespace Go.Proofs.Ythgenpcoelihiaa.fnNarrowed
open Go Go.ChangeShapes Go.WideShapes Go.ChangeAt Go.RowKit Go.Desk
set_option linter.unusedVariables false
theorem own : ownKnob Try.prog.godebug = none := by kernel_rfl
theorem laidOut : laidOutB Try.prog = true := by kernel_rfl
set_option maxRecDepth 100000 in
theorem lifted (os : Os) (started : os.Started) (H : Type) (enc : TypeId × Value → H) :
    ReturnsInHanded {} Try.checked os 3 .any (Rows.fnNarrowedSpec.pre6 enc Try.prog Try.f3 Rows.fnNarrowedRow.domain false) (Rows.fnNarrowedSpec.post enc Try.prog Try.f3 false true false false) := by
  refine returnsInHanded_of_change (C := Try.checked) own started (by kernel_rfl) Try.func3
    (ChangeSpec.witness6 (enc := enc) (C := Try.checked) false ⟨#[], #[.slice none 0 0, .slice none 0 0], []⟩ 8 (by kernel_rfl) (by kernel_rfl) (by kernel_rfl) (by kernel_rfl)) ?_
  intro W base args ds gs before hval hW hcnd _
  exact law_contract (c := D.c3) Try.checked.mixed D.tysOk D.fnOk Try.func3 (by kernel_rfl) (by kernel_rfl) (by kernel_rfl) Try.underlying4 rfl
    (fun ds h => by
      rw [show Try.f3.params.toList.length = 2 by kernel_rfl] at h
      match ds, h with
      | [_, _], _ => rfl)
    laidOut (N := 8) (by kernel_rfl) (by kernel_rfl) D.law3 hval hW
theorem over : Rows.fnNarrowedRow.holds Try.pinned (OpenSpec.ofChange Rows.fnNarrowedSpec) :=
  OpenClaim.holds_of_wide 3 Try.f3 rfl rfl rfl rfl rfl rfl rfl ⟨rfl, rfl, rfl, rfl, rfl⟩ rfl rfl rfl rfl rfl (by kernel_rfl) Try.func3 (by kernel_rfl)
    (of_decide_eq_true (by kernel_rfl)) (by unfold Func.isWrapper; first | (rw [if_pos (by decide +kernel)]; kernel_rfl) | (rw [if_neg (by decide +kernel)]; exact ⟨rfl, rfl⟩))
    (fun os started H enc _ => lifted os started H enc)
theorem proved : Rows.FnNarrowedSaid := over
#print axioms proved
end Go.Proofs.Ythgenpcoelihiaa.fnNarrowed
namespace Go.Proofs.Ythgenpcoelihiaa
/-- The row, under a short name, for the claim. -/
theorem fnNarrowed_holds : Rows.FnNarrowedSaid := fnNarrowed.proved
end Go.Proofs.Ythgenpcoelihiaa
end
