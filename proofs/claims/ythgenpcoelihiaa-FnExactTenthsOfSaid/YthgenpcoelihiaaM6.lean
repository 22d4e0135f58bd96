/- FnExactTenthsOf holds: for every input the law returns true, and its arguments read as before. -/
import Derived.Test.YthgenpcoelihiaaChecked
import Derived.Test.YthgenpcoelihiaaDeskE
import Derived.KernelRfl
import Derived.Test.YthgenpcoelihiaaRows
import Derived.WalkKit
import Derived.ProofKit
import Derived.OpenShut
import Derived.ShutString
import Derived.ChangeOld
import Derived.Below
import Derived.SizedLaws
set_option linter.all false
section
/- What math.Abs owes: tables of its own, and the reading of its code. -/
namespace Go.Proofs.Ythgenpcoelihiaa.DA
open Go Go.Desk
def bodyOf (f : Func) : Code := match f.body with
  | some c => c
  | none => .skip
def tyTab : List (Nat × TD) := [
  (28, ⟨false, 1, 8, [.leaf], [.flt .f64 0], .flt .f64⟩),
  (103, ⟨false, 1, 8, [.leaf], [.int .u64 0], .int .u64⟩)]
noncomputable def c115 : Code := bodyOf Try.f115
noncomputable def fnTab : List (Nat × FD) := [
  (115, .code c115 [.val] [] [(2, none)] [(0, [0]), (1, [0])]),
  (117, .ext (pF64frombits)),
  (118, .ext (pF64bits))]
noncomputable def E : Env := ⟨fun t => lookT tyTab t, lookF fnTab⟩
noncomputable def fdAt (n : Nat) : FD := match lookF fnTab n with
  | some d => d
  | none => .ext fun _ => none
noncomputable def keepAt (n : Nat) : List (Nat × List Nat) := match lookF fnTab n with
  | some d => d.keep
  | none => []
theorem tysOk : TysOk Try.prog E := tysOk_of (l := tyTab) (fun _ => rfl) (by kernel_rfl)
theorem ft115 : FnTab Try.prog E 115 (fdAt 115) := fnTab_code (c := c115) (modes := (fdAt 115).ms) (outs := (fdAt 115).os) (results := (fdAt 115).rs) (keep := (fdAt 115).keep) Try.func115 (by kernel_rfl) (by kernel_rfl) (by kernel_rfl)
theorem ft117 : FnTab Try.prog E 117 (.ext (pF64frombits)) := ext_pF64frombits Try.func117 (by kernel_rfl) (by kernel_rfl) (by kernel_rfl) (by kernel_rfl)
theorem ft118 : FnTab Try.prog E 118 (.ext (pF64bits)) := ext_pF64bits Try.func118 (by kernel_rfl) (by kernel_rfl) (by kernel_rfl) (by kernel_rfl)
theorem allFns : AllFns Try.prog E fnTab := .cons ft115 (.cons ft117 (.cons ft118 (.nil)))
theorem fnOk : ∀ f fd, E.fn f = some fd → FnTab Try.prog E f fd := fnTab_of (l := fnTab) (fun _ => rfl) allFns
end Go.Proofs.Ythgenpcoelihiaa.DA
section
namespace Go.Proofs.Ythgenpcoelihiaa.DA
open Go Go.Desk
set_option linter.unusedVariables false
noncomputable def x117.w : FnW E := xF64frombits.w 117 (by kernel_rfl)

noncomputable def x118.w : FnW E := xF64bits.w 118 (by kernel_rfl)

def f115_mathAbs : Nat → Nat → Option (Nat)
  | 0, _ => none
  | n + 1, x1 =>
    bd (xF64bits n x1) fun r2 =>
    let i3 : Int := r2
    bd (xF64frombits n (intBits BinOp.andNot IntKind.u64 i3 (9223372036854775808 : Int))) fun r4 =>
    let x5 : Nat := r4
    some x5
def sg_f : Sig (Nat) where
  pk := fun v => [.flt v]
  up := fun ls => match ls with
    | [.flt a0] => some a0
    | _ => none
  ok := by
    intro ls v h
    split at h
    · cases h; rfl
    · cases h

def f115_mathAbs.P : List Arg := [⟨.val, ⟨false, [.leaf], [.flt .f64 0]⟩⟩]
def f115_mathAbs.A : RAlt (Nat) := .one ⟨[⟨false, [.leaf], [.flt .f64 0]⟩], [none]⟩ sg_f
def f115_mathAbs.F (n : Nat) (v : Nat) := f115_mathAbs n v
noncomputable def f115_mathAbs.O (n : Nat) : Orc := orcOf (E := E) [x117.w, x118.w] [] n
theorem f115_mathAbs.ok : ∀ n v x, f115_mathAbs.F n v = some x → evalFn E n 115 (flAs f115_mathAbs.P (sg_f.pk v)) = some (f115_mathAbs.A.enc x) :=
  fn_pure (modes := (fdAt 115).ms) (outs := (fdAt 115).os) (results := (fdAt 115).rs) f115_mathAbs.O (c := c115) (keep := keepAt 115) (by kernel_rfl) (fun n => orcOf_cf _ _ n) (fun n => lpOk_of (bs := []) (by kernel_rfl) .nil) (fun _ => rfl) (fun _ _ => by kernel_rfl)
noncomputable def f115_mathAbs.w : FnW E := fnW 115 f115_mathAbs.P sg_f f115_mathAbs.A f115_mathAbs.F f115_mathAbs.ok
end Go.Proofs.Ythgenpcoelihiaa.DA
end
namespace Go.Proofs.Ythgenpcoelihiaa.DA
open Go Go.Desk
theorem absOk : ExtOk Try.prog 115 pAbs := ext_pAbs_of Try.checked.mixed tysOk fnOk
  (fun x hN hx => ⟨3, f115_mathAbs.ok 3 x _ (abs_plain 1 hN)⟩)
  ⟨5, by kernel_rfl⟩
end Go.Proofs.Ythgenpcoelihiaa.DA
end
section
/- The tables of the reading: types and functions of the translation, with what is kept at each region's beginning (written by a program of this workplace). -/
namespace Go.Proofs.Ythgenpcoelihiaa.D
open Go Go.Desk
def bodyOf (f : Func) : Code := match f.body with
  | some c => c
  | none => .skip
def tyTab : List (Nat × TD) := [
  (2, ⟨false, 1, 8, [.leaf], [.int .i64 0], .int .i64⟩),
  (3, ⟨false, 1, 8, [.leaf], [.int .i64 0], .int .i64⟩),
  (4, ⟨false, 1, 1, [.leaf], [.bool false], .bool⟩),
  (24, ⟨false, 1, 4, [.leaf], [.flt .f32 0], .flt .f32⟩),
  (28, ⟨false, 1, 8, [.leaf], [.flt .f64 0], .flt .f64⟩),
  (103, ⟨false, 1, 8, [.leaf], [.int .u64 0], .int .u64⟩)]
noncomputable def c6 : Code := bodyOf Try.f6
noncomputable def c33 : Code := bodyOf Try.f33
noncomputable def c34 : Code := bodyOf Try.f34
noncomputable def c40 : Code := bodyOf Try.f40
noncomputable def c78 : Code := bodyOf Try.f78
noncomputable def c88 : Code := bodyOf Try.f88
noncomputable def c90 : Code := bodyOf Try.f90
noncomputable def c95 : Code := bodyOf Try.f95
noncomputable def c113 : Code := bodyOf Try.f113
noncomputable def c114 : Code := bodyOf Try.f114
noncomputable def fnTab : List (Nat × FD) := [
  (6, .code c6 [.val] [] [(2, none)] [(0, [0]), (1, [0]), (2, [0, 3, 4]), (3, [3, 4, 5, 6]), (4, []), (5, [])]),
  (33, .code c33 [.val] [] [(2, none), (3, none)] [(0, [0]), (1, [0]), (2, []), (3, [0]), (4, [4])]),
  (34, .code c34 [.val] [] [(2, none), (3, none)] [(0, [0]), (1, [0]), (2, []), (3, [0])]),
  (40, .code c40 [.val] [] [(2, none)] [(0, [0]), (1, [0])]),
  (78, .code c78 [.val] [] [(2, none)] [(0, [0]), (1, [0])]),
  (88, .code c88 [.val] [] [(2, none)] [(0, [0]), (1, [0]), (2, []), (3, [0]), (4, []), (5, [0]), (6, [0]), (7, [0]), (8, [0, 3]), (9, [0, 3]), (10, [0, 3]), (11, [0, 3]), (12, [0, 3]), (13, [0, 3]), (14, [0, 3]), (15, [3, 4]), (16, [3, 4, 5]), (17, [3, 4, 5, 6]), (18, [3, 4, 5, 6, 7]), (19, [3, 4, 5, 6, 7]), (20, [3, 4, 5, 6, 7]), (21, [3, 4, 6]), (1000008, [0, 3]), (1000011, [0, 3]), (1000018, [3, 4, 6])]),
  (89, .ext (pIntegral .even)),
  (90, .code c90 [.val] [] [(2, none)] [(0, [0]), (1, [0]), (2, [0, 3]), (3, [0, 3]), (4, [0, 3]), (5, [0, 3]), (6, [0, 3]), (7, [0, 3]), (8, [0, 3]), (9, [3, 4]), (10, [3, 4, 5, 6]), (11, [3, 4, 5, 6, 7]), (12, [3, 4, 5, 6, 7]), (13, [3, 4, 5, 6, 7]), (14, [3, 4, 6]), (1000002, [0, 3]), (1000005, [0, 3]), (1000011, [3, 4, 6])]),
  (95, .code c95 [.val] [] [(2, none)] [(0, [0]), (1, [0]), (2, [0]), (3, []), (4, []), (5, [3])]),
  (113, .code c113 [] [] [(0, none)] [(0, []), (1, [])]),
  (114, .code c114 [.val, .val] [] [(4, none)] [(0, [0, 1]), (1, [0, 1]), (2, [0]), (3, [0, 1]), (4, [0]), (5, [0])]),
  (115, .ext (pAbs)),
  (117, .ext (pF64frombits))]
noncomputable def E : Env := ⟨fun t => lookT tyTab t, lookF fnTab⟩
noncomputable def fdAt (n : Nat) : FD := match lookF fnTab n with
  | some d => d
  | none => .ext fun _ => none
noncomputable def keepAt (n : Nat) : List (Nat × List Nat) := match lookF fnTab n with
  | some d => d.keep
  | none => []
theorem tysOk : TysOk Try.prog E := tysOk_of (l := tyTab) (fun _ => rfl) (by kernel_rfl)
theorem ft6 : FnTab Try.prog E 6 (fdAt 6) := fnTab_code (c := c6) (modes := (fdAt 6).ms) (outs := (fdAt 6).os) (results := (fdAt 6).rs) (keep := (fdAt 6).keep) Try.func6 (by kernel_rfl) (by kernel_rfl) (by kernel_rfl)
theorem ft33 : FnTab Try.prog E 33 (fdAt 33) := fnTab_code (c := c33) (modes := (fdAt 33).ms) (outs := (fdAt 33).os) (results := (fdAt 33).rs) (keep := (fdAt 33).keep) Try.func33 (by kernel_rfl) (by kernel_rfl) (by kernel_rfl)
theorem ft34 : FnTab Try.prog E 34 (fdAt 34) := fnTab_code (c := c34) (modes := (fdAt 34).ms) (outs := (fdAt 34).os) (results := (fdAt 34).rs) (keep := (fdAt 34).keep) Try.func34 (by kernel_rfl) (by kernel_rfl) (by kernel_rfl)
theorem ft40 : FnTab Try.prog E 40 (fdAt 40) := fnTab_code (c := c40) (modes := (fdAt 40).ms) (outs := (fdAt 40).os) (results := (fdAt 40).rs) (keep := (fdAt 40).keep) Try.func40 (by kernel_rfl) (by kernel_rfl) (by kernel_rfl)
theorem ft78 : FnTab Try.prog E 78 (fdAt 78) := fnTab_code (c := c78) (modes := (fdAt 78).ms) (outs := (fdAt 78).os) (results := (fdAt 78).rs) (keep := (fdAt 78).keep) Try.func78 (by kernel_rfl) (by kernel_rfl) (by kernel_rfl)
theorem ft88 : FnTab Try.prog E 88 (fdAt 88) := fnTab_code (c := c88) (modes := (fdAt 88).ms) (outs := (fdAt 88).os) (results := (fdAt 88).rs) (keep := (fdAt 88).keep) Try.func88 (by kernel_rfl) (by kernel_rfl) (by kernel_rfl)
theorem ft89 : FnTab Try.prog E 89 (.ext (pIntegral .even)) := ext_pIntegral_even Try.func89 (by kernel_rfl) (by kernel_rfl) (by kernel_rfl) (by kernel_rfl)
theorem ft90 : FnTab Try.prog E 90 (fdAt 90) := fnTab_code (c := c90) (modes := (fdAt 90).ms) (outs := (fdAt 90).os) (results := (fdAt 90).rs) (keep := (fdAt 90).keep) Try.func90 (by kernel_rfl) (by kernel_rfl) (by kernel_rfl)
theorem ft95 : FnTab Try.prog E 95 (fdAt 95) := fnTab_code (c := c95) (modes := (fdAt 95).ms) (outs := (fdAt 95).os) (results := (fdAt 95).rs) (keep := (fdAt 95).keep) Try.func95 (by kernel_rfl) (by kernel_rfl) (by kernel_rfl)
theorem ft113 : FnTab Try.prog E 113 (fdAt 113) := fnTab_code (c := c113) (modes := (fdAt 113).ms) (outs := (fdAt 113).os) (results := (fdAt 113).rs) (keep := (fdAt 113).keep) Try.func113 (by kernel_rfl) (by kernel_rfl) (by kernel_rfl)
theorem ft114 : FnTab Try.prog E 114 (fdAt 114) := fnTab_code (c := c114) (modes := (fdAt 114).ms) (outs := (fdAt 114).os) (results := (fdAt 114).rs) (keep := (fdAt 114).keep) Try.func114 (by kernel_rfl) (by kernel_rfl) (by kernel_rfl)
theorem ft115 : FnTab Try.prog E 115 (.ext (pAbs)) := DA.absOk
theorem ft117 : FnTab Try.prog E 117 (.ext (pF64frombits)) := ext_pF64frombits Try.func117 (by kernel_rfl) (by kernel_rfl) (by kernel_rfl) (by kernel_rfl)
theorem allFns : AllFns Try.prog E fnTab := .cons ft6 (.cons ft33 (.cons ft34 (.cons ft40 (.cons ft78 (.cons ft88 (.cons ft89 (.cons ft90 (.cons ft95 (.cons ft113 (.cons ft114 (.cons ft115 (.cons ft117 (.nil)))))))))))))
theorem fnOk : ∀ f fd, E.fn f = some fd → FnTab Try.prog E f fd := fnTab_of (l := fnTab) (fun _ => rfl) allFns
end Go.Proofs.Ythgenpcoelihiaa.D
end
section
/- Plain functions for the law's Go functions, each tied to the reading by the kernel (printed by a program of this workplace). -/
namespace Go.Proofs.Ythgenpcoelihiaa.D
open Go Go.Desk
set_option linter.unusedVariables false
noncomputable def x117.w : FnW E := xF64frombits.w 117 (by kernel_rfl)

noncomputable def x115.w : FnW E := xAbs.w 115 (by kernel_rfl)

noncomputable def x89.w : FnW E := xIntegral_even.w 89 (by kernel_rfl)

def f78_s_l01Finite : Nat → Nat → Option (Bool)
  | 0, _ => none
  | n + 1, x1 =>
    some (feq FloatKind.f32 (fsub FloatKind.f32 x1 x1) 0)
def sg_f : Sig (Nat) where
  pk := fun v => [.flt v]
  up := fun ls => match ls with
    | [.flt a0] => some a0
    | _ => none
  ok := by
    intro ls v h
    split at h
    · cases h; rfl
    · cases h

def sg_b : Sig (Bool) where
  pk := fun v => [.bool v]
  up := fun ls => match ls with
    | [.bool a0] => some a0
    | _ => none
  ok := by
    intro ls v h
    split at h
    · cases h; rfl
    · cases h

def f78_s_l01Finite.P : List Arg := [⟨.val, ⟨false, [.leaf], [.flt .f32 0]⟩⟩]
def f78_s_l01Finite.A : RAlt (Bool) := .one ⟨[⟨false, [.leaf], [.bool false]⟩], [none]⟩ sg_b
def f78_s_l01Finite.F (n : Nat) (v : Nat) := f78_s_l01Finite n v
noncomputable def f78_s_l01Finite.O (n : Nat) : Orc := orcOf (E := E) [] [] n
theorem f78_s_l01Finite.ok : ∀ n v x, f78_s_l01Finite.F n v = some x → evalFn E n 78 (flAs f78_s_l01Finite.P (sg_f.pk v)) = some (f78_s_l01Finite.A.enc x) :=
  fn_pure (modes := (fdAt 78).ms) (outs := (fdAt 78).os) (results := (fdAt 78).rs) f78_s_l01Finite.O (c := c78) (keep := keepAt 78) (by kernel_rfl) (fun n => orcOf_cf _ _ n) (fun n => lpOk_of (bs := []) (by kernel_rfl) .nil) (fun _ => rfl) (fun _ _ => by kernel_rfl)
noncomputable def f78_s_l01Finite.w : FnW E := fnW 78 f78_s_l01Finite.P sg_f f78_s_l01Finite.A f78_s_l01Finite.F f78_s_l01Finite.ok

def f113_mathNaN : Nat → Option (Nat)
  | 0 => none
  | n + 1 =>
    bd (xF64frombits n (9221120237041090561 : Int)) fun r1 =>
    let x2 : Nat := r1
    some x2
def sg : Sig (Unit) where
  pk := fun v => []
  up := fun ls => match ls with
    | [] => some ()
    | _ => none
  ok := by
    intro ls v h
    split at h
    · cases h; rfl
    · cases h

def f113_mathNaN.P : List Arg := []
def f113_mathNaN.A : RAlt (Nat) := .one ⟨[⟨false, [.leaf], [.flt .f64 0]⟩], []⟩ sg_f
def f113_mathNaN.F (n : Nat) (v : Unit) := f113_mathNaN n
noncomputable def f113_mathNaN.O (n : Nat) : Orc := orcOf (E := E) [x117.w] [] n
theorem f113_mathNaN.ok : ∀ n v x, f113_mathNaN.F n v = some x → evalFn E n 113 (flAs f113_mathNaN.P (sg.pk v)) = some (f113_mathNaN.A.enc x) :=
  fn_pure (modes := (fdAt 113).ms) (outs := (fdAt 113).os) (results := (fdAt 113).rs) f113_mathNaN.O (c := c113) (keep := keepAt 113) (by kernel_rfl) (fun n => orcOf_cf _ _ n) (fun n => lpOk_of (bs := []) (by kernel_rfl) .nil) (fun _ => rfl) (fun _ _ => by kernel_rfl)
noncomputable def f113_mathNaN.w : FnW E := fnW 113 f113_mathNaN.P sg f113_mathNaN.A f113_mathNaN.F f113_mathNaN.ok

def f95_mathInf : Nat → Int → Option (Nat)
  | 0, _ => none
  | n + 1, i1 =>
    br (decide (i1 ≥ (0 : Int))) (
     bd (xF64frombits n (9218868437227405312 : Int)) fun r2 =>
     let x3 : Nat := r2
     some x3) (
     bd (xF64frombits n (18442240474082181120 : Int)) fun r4 =>
     let x5 : Nat := r4
     some x5)
def sg_i : Sig (Int) where
  pk := fun v => [.int v]
  up := fun ls => match ls with
    | [.int a0] => some a0
    | _ => none
  ok := by
    intro ls v h
    split at h
    · cases h; rfl
    · cases h

def f95_mathInf.P : List Arg := [⟨.val, ⟨false, [.leaf], [.int .i64 0]⟩⟩]
def f95_mathInf.A : RAlt (Nat) := .one ⟨[⟨false, [.leaf], [.flt .f64 0]⟩], [none]⟩ sg_f
def f95_mathInf.F (n : Nat) (v : Int) := f95_mathInf n v
noncomputable def f95_mathInf.O (n : Nat) : Orc := orcOf (E := E) [x117.w] [] n
theorem f95_mathInf.ok : ∀ n v x, f95_mathInf.F n v = some x → evalFn E n 95 (flAs f95_mathInf.P (sg_i.pk v)) = some (f95_mathInf.A.enc x) :=
  fn_pure (modes := (fdAt 95).ms) (outs := (fdAt 95).os) (results := (fdAt 95).rs) f95_mathInf.O (c := c95) (keep := keepAt 95) (by kernel_rfl) (fun n => orcOf_cf _ _ n) (fun n => lpOk_of (bs := []) (by kernel_rfl) .nil) (fun _ => rfl) (fun _ _ => by kernel_rfl)
noncomputable def f95_mathInf.w : FnW E := fnW 95 f95_mathInf.P sg_i f95_mathInf.A f95_mathInf.F f95_mathInf.ok

def f114_mathIsInf : Nat → Nat → Int → Option (Bool)
  | 0, _, _ => none
  | n + 1, x1, i2 =>
    br (i2 == (0 : Int)) (
     bd (xAbs n x1) fun r3 =>
     let x4 : Nat := r3
     some (fgt FloatKind.f64 x4 9218868437227405311)) (
     br (decide (i2 < (0 : Int))) (
      let x5 : Nat := (negF FloatKind.f64 x1)
      some (fgt FloatKind.f64 x5 9218868437227405311)) (
      some (fgt FloatKind.f64 x1 9218868437227405311)))
def sg_fi : Sig (Nat × Int) where
  pk := fun v => [.flt v.1, .int v.2]
  up := fun ls => match ls with
    | [.flt a0, .int a1] => some (a0, a1)
    | _ => none
  ok := by
    intro ls v h
    split at h
    · cases h; rfl
    · cases h

def f114_mathIsInf.P : List Arg := [⟨.val, ⟨false, [.leaf], [.flt .f64 0]⟩⟩, ⟨.val, ⟨false, [.leaf], [.int .i64 0]⟩⟩]
def f114_mathIsInf.A : RAlt (Bool) := .one ⟨[⟨false, [.leaf], [.bool false]⟩], [none, none]⟩ sg_b
def f114_mathIsInf.F (n : Nat) (v : Nat × Int) := f114_mathIsInf n v.1 v.2
noncomputable def f114_mathIsInf.O (n : Nat) : Orc := orcOf (E := E) [x115.w] [] n
theorem f114_mathIsInf.ok : ∀ n v x, f114_mathIsInf.F n v = some x → evalFn E n 114 (flAs f114_mathIsInf.P (sg_fi.pk v)) = some (f114_mathIsInf.A.enc x) :=
  fn_pure (modes := (fdAt 114).ms) (outs := (fdAt 114).os) (results := (fdAt 114).rs) f114_mathIsInf.O (c := c114) (keep := keepAt 114) (by kernel_rfl) (fun n => orcOf_cf _ _ n) (fun n => lpOk_of (bs := []) (by kernel_rfl) .nil) (fun _ => rfl) (fun _ _ => by kernel_rfl)
noncomputable def f114_mathIsInf.w : FnW E := fnW 114 f114_mathIsInf.P sg_fi f114_mathIsInf.A f114_mathIsInf.F f114_mathIsInf.ok

def f88_s_l01LogWide.l0 (n : Nat) : Nat → Nat → Int → Option (Nat × Int)
  | 0, _, _ => none
  | m + 1, x1, i2 =>
    br (fge FloatKind.f64 x1 4609434218613702656) (
     let x3 : Nat := (fdiv FloatKind.f64 x1 4611686018427387904)
     f88_s_l01LogWide.l0 n m x3 (IntKind.i64.wrap (i2 + (1 : Int)))) (
     some (x1, i2))
def f88_s_l01LogWide.l1 (n : Nat) : Nat → Nat → Int → Option (Nat × Int)
  | 0, _, _ => none
  | m + 1, x1, i2 =>
    br (flt FloatKind.f64 x1 4604930618986332160) (
     let x3 : Nat := (fmul FloatKind.f64 x1 4611686018427387904)
     f88_s_l01LogWide.l1 n m x3 (IntKind.i64.wrap (i2 - (1 : Int)))) (
     some (x1, i2))
def f88_s_l01LogWide.l2 (n : Nat) : Nat → Int → Nat → Nat → Nat → Int → Option (Int × Nat × Nat)
  | 0, _, _, _, _, _ => none
  | m + 1, i1, x2, x3, x4, i5 =>
    br (decide (i5 ≥ (1 : Int))) (
     let x6 : Nat := (fadd FloatKind.f64 (fdiv FloatKind.f64 4607182418800017408 (FloatKind.nearest FloatKind.f64 i5)) (fmul FloatKind.f64 x3 x4))
     f88_s_l01LogWide.l2 n m i1 x2 x3 x6 (IntKind.i64.wrap (i5 - (2 : Int)))) (
     some (i1, x2, x4))
def f88_s_l01LogWide : Nat → Nat → Option (Nat)
  | 0, _ => none
  | n + 1, x1 =>
    br (fne FloatKind.f64 x1 x1) (
     bd (f113_mathNaN n) fun r2 =>
     let x3 : Nat := r2
     some x3) (
     br (flt FloatKind.f64 x1 0) (
      bd (f113_mathNaN n) fun r4 =>
      let x5 : Nat := r4
      some x5) (
      br (feq FloatKind.f64 x1 0) (
       bd (f95_mathInf n (-1 : Int)) fun r6 =>
       let x7 : Nat := r6
       some x7) (
       bd (f114_mathIsInf n x1 (1 : Int)) fun r8 =>
       let b9 : Bool := r8
       br b9 (
        some x1) (
        bd (f88_s_l01LogWide.l0 n n x1 (0 : Int)) fun r10 =>
        let x11 : Nat := r10.1
        let i12 : Int := r10.2
        bd (f88_s_l01LogWide.l1 n n x11 i12) fun r13 =>
        let x14 : Nat := r13.1
        let i15 : Int := r13.2
        let x16 : Nat := (fdiv FloatKind.f64 (fsub FloatKind.f64 x14 4607182418800017408) (fadd FloatKind.f64 x14 4607182418800017408))
        let x17 : Nat := (fmul FloatKind.f64 x16 x16)
        bd (f88_s_l01LogWide.l2 n n i15 x16 x17 0 (25 : Int)) fun r18 =>
        let i19 : Int := r18.1
        let x20 : Nat := r18.2.1
        let x21 : Nat := r18.2.2
        some (fadd FloatKind.f64 (fmul FloatKind.f64 4611686018427387904 (fmul FloatKind.f64 x20 x21)) (fmul FloatKind.f64 (FloatKind.nearest FloatKind.f64 i19) 4604418534313441775))))))
def sg_ifffi : Sig (Int × Nat × Nat × Nat × Int) where
  pk := fun v => [.int v.1, .flt v.2.1, .flt v.2.2.1, .flt v.2.2.2.1, .int v.2.2.2.2]
  up := fun ls => match ls with
    | [.int a0, .flt a1, .flt a2, .flt a3, .int a4] => some (a0, a1, a2, a3, a4)
    | _ => none
  ok := by
    intro ls v h
    split at h
    · cases h; rfl
    · cases h

def sg_iff : Sig (Int × Nat × Nat) where
  pk := fun v => [.int v.1, .flt v.2.1, .flt v.2.2]
  up := fun ls => match ls with
    | [.int a0, .flt a1, .flt a2] => some (a0, a1, a2)
    | _ => none
  ok := by
    intro ls v h
    split at h
    · cases h; rfl
    · cases h

def f88_s_l01LogWide.l0.P : AS := ⟨[(0, .val false [.leaf] [.flt .f64 0] [] 0), (3, .val false [.leaf] [.int .i64 0] [] 0)], 0⟩
def f88_s_l01LogWide.l0.A : Alt (Nat × Int) := .one (.exit 1) ⟨[(0, .val false [.leaf] [.flt .f64 0] [] 0), (3, .val false [.leaf] [.int .i64 0] [] 0)], 0⟩ sg_fi
def f88_s_l01LogWide.l0.F (n m : Nat) (v : Nat × Int) := f88_s_l01LogWide.l0 n m v.1 v.2
def f88_s_l01LogWide.l0.W (n : Nat) : LpW := .of 128 f88_s_l01LogWide.l0.P sg_fi f88_s_l01LogWide.l0.A (f88_s_l01LogWide.l0.F n n)
def f88_s_l01LogWide.l1.P : AS := ⟨[(0, .val false [.leaf] [.flt .f64 0] [] 0), (3, .val false [.leaf] [.int .i64 0] [] 0)], 0⟩
def f88_s_l01LogWide.l1.A : Alt (Nat × Int) := .one (.exit 3) ⟨[(0, .val false [.leaf] [.flt .f64 0] [] 0), (3, .val false [.leaf] [.int .i64 0] [] 0)], 0⟩ sg_fi
def f88_s_l01LogWide.l1.F (n m : Nat) (v : Nat × Int) := f88_s_l01LogWide.l1 n m v.1 v.2
def f88_s_l01LogWide.l1.W (n : Nat) : LpW := .of 176 f88_s_l01LogWide.l1.P sg_fi f88_s_l01LogWide.l1.A (f88_s_l01LogWide.l1.F n n)
def f88_s_l01LogWide.l2.P : AS := ⟨[(3, .val false [.leaf] [.int .i64 0] [] 0), (4, .val false [.leaf] [.flt .f64 0] [] 0), (5, .val false [.leaf] [.flt .f64 0] [] 0), (6, .val false [.leaf] [.flt .f64 0] [] 0), (7, .val false [.leaf] [.int .i64 0] [] 0)], 0⟩
def f88_s_l01LogWide.l2.A : Alt (Int × Nat × Nat) := .one (.exit 5) ⟨[(3, .val false [.leaf] [.int .i64 0] [] 0), (4, .val false [.leaf] [.flt .f64 0] [] 0), (6, .val false [.leaf] [.flt .f64 0] [] 0)], 0⟩ sg_iff
def f88_s_l01LogWide.l2.F (n m : Nat) (v : Int × Nat × Nat × Nat × Int) := f88_s_l01LogWide.l2 n m v.1 v.2.1 v.2.2.1 v.2.2.2.1 v.2.2.2.2
def f88_s_l01LogWide.l2.W (n : Nat) : LpW := .of 288 f88_s_l01LogWide.l2.P sg_ifffi f88_s_l01LogWide.l2.A (f88_s_l01LogWide.l2.F n n)
def f88_s_l01LogWide.P : List Arg := [⟨.val, ⟨false, [.leaf], [.flt .f64 0]⟩⟩]
def f88_s_l01LogWide.A : RAlt (Nat) := .one ⟨[⟨false, [.leaf], [.flt .f64 0]⟩], [none]⟩ sg_f
def f88_s_l01LogWide.F (n : Nat) (v : Nat) := f88_s_l01LogWide n v
noncomputable def f88_s_l01LogWide.O (n : Nat) : Orc := orcOf (E := E) [f113_mathNaN.w, f95_mathInf.w, f114_mathIsInf.w] [f88_s_l01LogWide.l0.W n, f88_s_l01LogWide.l1.W n, f88_s_l01LogWide.l2.W n] n
theorem f88_s_l01LogWide.l0.ok (n : Nat) : LpOk (f88_s_l01LogWide.O n) E (evalFn E n) n (keepAt 88) (.loop (loopAt c88 0)) :=
  lp_pure f88_s_l01LogWide.l0.P sg_fi f88_s_l01LogWide.l0.A (f88_s_l01LogWide.l0.F n) (orcOf_cf _ _ n) (lpOk_of (bs := []) (by kernel_rfl) .nil) (fun _ => rfl) (fun _ _ => by kernel_rfl) (fun _ _ _ => by kernel_rfl)
theorem f88_s_l01LogWide.l1.ok (n : Nat) : LpOk (f88_s_l01LogWide.O n) E (evalFn E n) n (keepAt 88) (.loop (loopAt c88 1)) :=
  lp_pure f88_s_l01LogWide.l1.P sg_fi f88_s_l01LogWide.l1.A (f88_s_l01LogWide.l1.F n) (orcOf_cf _ _ n) (lpOk_of (bs := []) (by kernel_rfl) .nil) (fun _ => rfl) (fun _ _ => by kernel_rfl) (fun _ _ _ => by kernel_rfl)
theorem f88_s_l01LogWide.l2.ok (n : Nat) : LpOk (f88_s_l01LogWide.O n) E (evalFn E n) n (keepAt 88) (.loop (loopAt c88 2)) :=
  lp_pure f88_s_l01LogWide.l2.P sg_ifffi f88_s_l01LogWide.l2.A (f88_s_l01LogWide.l2.F n) (orcOf_cf _ _ n) (lpOk_of (bs := []) (by kernel_rfl) .nil) (fun _ => rfl) (fun _ _ => by kernel_rfl) (fun _ _ _ => by kernel_rfl)
theorem f88_s_l01LogWide.ok : ∀ n v x, f88_s_l01LogWide.F n v = some x → evalFn E n 88 (flAs f88_s_l01LogWide.P (sg_f.pk v)) = some (f88_s_l01LogWide.A.enc x) :=
  fn_pure (modes := (fdAt 88).ms) (outs := (fdAt 88).os) (results := (fdAt 88).rs) f88_s_l01LogWide.O (c := c88) (keep := keepAt 88) (by kernel_rfl) (fun n => orcOf_cf _ _ n) (fun n => lpOk_of (bs := [loopAt c88 0, loopAt c88 1, loopAt c88 2]) (by kernel_rfl) (.cons (f88_s_l01LogWide.l0.ok n) (.cons (f88_s_l01LogWide.l1.ok n) (.cons (f88_s_l01LogWide.l2.ok n) .nil)))) (fun _ => rfl) (fun _ _ => by kernel_rfl)
noncomputable def f88_s_l01LogWide.w : FnW E := fnW 88 f88_s_l01LogWide.P sg_f f88_s_l01LogWide.A f88_s_l01LogWide.F f88_s_l01LogWide.ok

def f33_s_TenthsOf : Nat → Nat → Option (Int × Bool)
  | 0, _ => none
  | n + 1, x1 =>
    bd (f78_s_l01Finite n x1) fun r2 =>
    let b3 : Bool := r2
    br (!b3) (
     some ((0 : Int), false)) (
     br (!(fgt FloatKind.f32 x1 0)) (
      some ((0 : Int), false)) (
      bd ((fltToFlt FloatKind.f32 x1 FloatKind.f64)) fun y4 =>
      bd (f88_s_l01LogWide n y4) fun r5 =>
      let x6 : Nat := r5
      let x7 : Nat := (fdiv FloatKind.f64 (fmul FloatKind.f64 4641240890982006784 x6) 4612367379483415830)
      bd (xIntegral_even n x7) fun r8 =>
      let x9 : Nat := r8
      bd ((fltToInt FloatKind.f64 x9 IntKind.i64)) fun y10 =>
      some (y10, true)))
def sg_ib : Sig (Int × Bool) where
  pk := fun v => [.int v.1, .bool v.2]
  up := fun ls => match ls with
    | [.int a0, .bool a1] => some (a0, a1)
    | _ => none
  ok := by
    intro ls v h
    split at h
    · cases h; rfl
    · cases h

def f33_s_TenthsOf.P : List Arg := [⟨.val, ⟨false, [.leaf], [.flt .f32 0]⟩⟩]
def f33_s_TenthsOf.A : RAlt (Int × Bool) := .one ⟨[⟨false, [.leaf], [.int .i64 0]⟩, ⟨false, [.leaf], [.bool false]⟩], [none]⟩ sg_ib
def f33_s_TenthsOf.F (n : Nat) (v : Nat) := f33_s_TenthsOf n v
noncomputable def f33_s_TenthsOf.O (n : Nat) : Orc := orcOf (E := E) [x89.w, f78_s_l01Finite.w, f88_s_l01LogWide.w] [] n
theorem f33_s_TenthsOf.ok : ∀ n v x, f33_s_TenthsOf.F n v = some x → evalFn E n 33 (flAs f33_s_TenthsOf.P (sg_f.pk v)) = some (f33_s_TenthsOf.A.enc x) :=
  fn_pure (modes := (fdAt 33).ms) (outs := (fdAt 33).os) (results := (fdAt 33).rs) f33_s_TenthsOf.O (c := c33) (keep := keepAt 33) (by kernel_rfl) (fun n => orcOf_cf _ _ n) (fun n => lpOk_of (bs := []) (by kernel_rfl) .nil) (fun _ => rfl) (fun _ _ => by kernel_rfl)
noncomputable def f33_s_TenthsOf.w : FnW E := fnW 33 f33_s_TenthsOf.P sg_f f33_s_TenthsOf.A f33_s_TenthsOf.F f33_s_TenthsOf.ok

def f40_i_IsFinite : Nat → Nat → Option (Bool)
  | 0, _ => none
  | n + 1, x1 =>
    some (feq FloatKind.f32 (fsub FloatKind.f32 x1 x1) 0)
def f40_i_IsFinite.P : List Arg := [⟨.val, ⟨false, [.leaf], [.flt .f32 0]⟩⟩]
def f40_i_IsFinite.A : RAlt (Bool) := .one ⟨[⟨false, [.leaf], [.bool false]⟩], [none]⟩ sg_b
def f40_i_IsFinite.F (n : Nat) (v : Nat) := f40_i_IsFinite n v
noncomputable def f40_i_IsFinite.O (n : Nat) : Orc := orcOf (E := E) [] [] n
theorem f40_i_IsFinite.ok : ∀ n v x, f40_i_IsFinite.F n v = some x → evalFn E n 40 (flAs f40_i_IsFinite.P (sg_f.pk v)) = some (f40_i_IsFinite.A.enc x) :=
  fn_pure (modes := (fdAt 40).ms) (outs := (fdAt 40).os) (results := (fdAt 40).rs) f40_i_IsFinite.O (c := c40) (keep := keepAt 40) (by kernel_rfl) (fun n => orcOf_cf _ _ n) (fun n => lpOk_of (bs := []) (by kernel_rfl) .nil) (fun _ => rfl) (fun _ _ => by kernel_rfl)
noncomputable def f40_i_IsFinite.w : FnW E := fnW 40 f40_i_IsFinite.P sg_f f40_i_IsFinite.A f40_i_IsFinite.F f40_i_IsFinite.ok

def f90_i_logarithm.l0 (n : Nat) : Nat → Nat → Nat → Option (Nat × Nat)
  | 0, _, _ => none
  | m + 1, x1, x2 =>
    br (fge FloatKind.f64 x1 4609434218613702656) (
     let x3 : Nat := (fdiv FloatKind.f64 x1 4611686018427387904)
     f90_i_logarithm.l0 n m x3 (fadd FloatKind.f64 x2 4607182418800017408)) (
     some (x1, x2))
def f90_i_logarithm.l1 (n : Nat) : Nat → Nat → Nat → Option (Nat × Nat)
  | 0, _, _ => none
  | m + 1, x1, x2 =>
    br (flt FloatKind.f64 x1 4604930618986332160) (
     let x3 : Nat := (fmul FloatKind.f64 x1 4611686018427387904)
     f90_i_logarithm.l1 n m x3 (fsub FloatKind.f64 x2 4607182418800017408)) (
     some (x1, x2))
def f90_i_logarithm.l2 (n : Nat) : Nat → Nat → Nat → Nat → Nat → Nat → Option (Nat × Nat × Nat)
  | 0, _, _, _, _, _ => none
  | m + 1, x1, x2, x3, x4, x5 =>
    br (fge FloatKind.f64 x5 4607182418800017408) (
     let x6 : Nat := (fadd FloatKind.f64 (fdiv FloatKind.f64 4607182418800017408 x5) (fmul FloatKind.f64 x3 x4))
     f90_i_logarithm.l2 n m x1 x2 x3 x6 (fsub FloatKind.f64 x5 4611686018427387904)) (
     some (x1, x2, x4))
def f90_i_logarithm : Nat → Nat → Option (Nat)
  | 0, _ => none
  | n + 1, x1 =>
    bd (f90_i_logarithm.l0 n n x1 0) fun r2 =>
    let x3 : Nat := r2.1
    let x4 : Nat := r2.2
    bd (f90_i_logarithm.l1 n n x3 x4) fun r5 =>
    let x6 : Nat := r5.1
    let x7 : Nat := r5.2
    let x8 : Nat := (fdiv FloatKind.f64 (fsub FloatKind.f64 x6 4607182418800017408) (fadd FloatKind.f64 x6 4607182418800017408))
    let x9 : Nat := (fmul FloatKind.f64 x8 x8)
    bd (f90_i_logarithm.l2 n n x7 x8 x9 0 4627730092099895296) fun r10 =>
    let x11 : Nat := r10.1
    let x12 : Nat := r10.2.1
    let x13 : Nat := r10.2.2
    some (fadd FloatKind.f64 (fmul FloatKind.f64 4611686018427387904 (fmul FloatKind.f64 x12 x13)) (fmul FloatKind.f64 x11 4604418534313441775))
def sg_ff : Sig (Nat × Nat) where
  pk := fun v => [.flt v.1, .flt v.2]
  up := fun ls => match ls with
    | [.flt a0, .flt a1] => some (a0, a1)
    | _ => none
  ok := by
    intro ls v h
    split at h
    · cases h; rfl
    · cases h

def sg_fffff : Sig (Nat × Nat × Nat × Nat × Nat) where
  pk := fun v => [.flt v.1, .flt v.2.1, .flt v.2.2.1, .flt v.2.2.2.1, .flt v.2.2.2.2]
  up := fun ls => match ls with
    | [.flt a0, .flt a1, .flt a2, .flt a3, .flt a4] => some (a0, a1, a2, a3, a4)
    | _ => none
  ok := by
    intro ls v h
    split at h
    · cases h; rfl
    · cases h

def sg_fff : Sig (Nat × Nat × Nat) where
  pk := fun v => [.flt v.1, .flt v.2.1, .flt v.2.2]
  up := fun ls => match ls with
    | [.flt a0, .flt a1, .flt a2] => some (a0, a1, a2)
    | _ => none
  ok := by
    intro ls v h
    split at h
    · cases h; rfl
    · cases h

def f90_i_logarithm.l0.P : AS := ⟨[(0, .val false [.leaf] [.flt .f64 0] [] 0), (3, .val false [.leaf] [.flt .f64 0] [] 0)], 0⟩
def f90_i_logarithm.l0.A : Alt (Nat × Nat) := .one (.exit 0) ⟨[(0, .val false [.leaf] [.flt .f64 0] [] 0), (3, .val false [.leaf] [.flt .f64 0] [] 0)], 0⟩ sg_ff
def f90_i_logarithm.l0.F (n m : Nat) (v : Nat × Nat) := f90_i_logarithm.l0 n m v.1 v.2
def f90_i_logarithm.l0.W (n : Nat) : LpW := .of 32 f90_i_logarithm.l0.P sg_ff f90_i_logarithm.l0.A (f90_i_logarithm.l0.F n n)
def f90_i_logarithm.l1.P : AS := ⟨[(0, .val false [.leaf] [.flt .f64 0] [] 0), (3, .val false [.leaf] [.flt .f64 0] [] 0)], 0⟩
def f90_i_logarithm.l1.A : Alt (Nat × Nat) := .one (.exit 2) ⟨[(0, .val false [.leaf] [.flt .f64 0] [] 0), (3, .val false [.leaf] [.flt .f64 0] [] 0)], 0⟩ sg_ff
def f90_i_logarithm.l1.F (n m : Nat) (v : Nat × Nat) := f90_i_logarithm.l1 n m v.1 v.2
def f90_i_logarithm.l1.W (n : Nat) : LpW := .of 80 f90_i_logarithm.l1.P sg_ff f90_i_logarithm.l1.A (f90_i_logarithm.l1.F n n)
def f90_i_logarithm.l2.P : AS := ⟨[(3, .val false [.leaf] [.flt .f64 0] [] 0), (4, .val false [.leaf] [.flt .f64 0] [] 0), (5, .val false [.leaf] [.flt .f64 0] [] 0), (6, .val false [.leaf] [.flt .f64 0] [] 0), (7, .val false [.leaf] [.flt .f64 0] [] 0)], 0⟩
def f90_i_logarithm.l2.A : Alt (Nat × Nat × Nat) := .one (.exit 4) ⟨[(3, .val false [.leaf] [.flt .f64 0] [] 0), (4, .val false [.leaf] [.flt .f64 0] [] 0), (6, .val false [.leaf] [.flt .f64 0] [] 0)], 0⟩ sg_fff
def f90_i_logarithm.l2.F (n m : Nat) (v : Nat × Nat × Nat × Nat × Nat) := f90_i_logarithm.l2 n m v.1 v.2.1 v.2.2.1 v.2.2.2.1 v.2.2.2.2
def f90_i_logarithm.l2.W (n : Nat) : LpW := .of 176 f90_i_logarithm.l2.P sg_fffff f90_i_logarithm.l2.A (f90_i_logarithm.l2.F n n)
def f90_i_logarithm.P : List Arg := [⟨.val, ⟨false, [.leaf], [.flt .f64 0]⟩⟩]
def f90_i_logarithm.A : RAlt (Nat) := .one ⟨[⟨false, [.leaf], [.flt .f64 0]⟩], [none]⟩ sg_f
def f90_i_logarithm.F (n : Nat) (v : Nat) := f90_i_logarithm n v
noncomputable def f90_i_logarithm.O (n : Nat) : Orc := orcOf (E := E) [] [f90_i_logarithm.l0.W n, f90_i_logarithm.l1.W n, f90_i_logarithm.l2.W n] n
theorem f90_i_logarithm.l0.ok (n : Nat) : LpOk (f90_i_logarithm.O n) E (evalFn E n) n (keepAt 90) (.loop (loopAt c90 0)) :=
  lp_pure f90_i_logarithm.l0.P sg_ff f90_i_logarithm.l0.A (f90_i_logarithm.l0.F n) (orcOf_cf _ _ n) (lpOk_of (bs := []) (by kernel_rfl) .nil) (fun _ => rfl) (fun _ _ => by kernel_rfl) (fun _ _ _ => by kernel_rfl)
theorem f90_i_logarithm.l1.ok (n : Nat) : LpOk (f90_i_logarithm.O n) E (evalFn E n) n (keepAt 90) (.loop (loopAt c90 1)) :=
  lp_pure f90_i_logarithm.l1.P sg_ff f90_i_logarithm.l1.A (f90_i_logarithm.l1.F n) (orcOf_cf _ _ n) (lpOk_of (bs := []) (by kernel_rfl) .nil) (fun _ => rfl) (fun _ _ => by kernel_rfl) (fun _ _ _ => by kernel_rfl)
theorem f90_i_logarithm.l2.ok (n : Nat) : LpOk (f90_i_logarithm.O n) E (evalFn E n) n (keepAt 90) (.loop (loopAt c90 2)) :=
  lp_pure f90_i_logarithm.l2.P sg_fffff f90_i_logarithm.l2.A (f90_i_logarithm.l2.F n) (orcOf_cf _ _ n) (lpOk_of (bs := []) (by kernel_rfl) .nil) (fun _ => rfl) (fun _ _ => by kernel_rfl) (fun _ _ _ => by kernel_rfl)
theorem f90_i_logarithm.ok : ∀ n v x, f90_i_logarithm.F n v = some x → evalFn E n 90 (flAs f90_i_logarithm.P (sg_f.pk v)) = some (f90_i_logarithm.A.enc x) :=
  fn_pure (modes := (fdAt 90).ms) (outs := (fdAt 90).os) (results := (fdAt 90).rs) f90_i_logarithm.O (c := c90) (keep := keepAt 90) (by kernel_rfl) (fun n => orcOf_cf _ _ n) (fun n => lpOk_of (bs := [loopAt c90 0, loopAt c90 1, loopAt c90 2]) (by kernel_rfl) (.cons (f90_i_logarithm.l0.ok n) (.cons (f90_i_logarithm.l1.ok n) (.cons (f90_i_logarithm.l2.ok n) .nil)))) (fun _ => rfl) (fun _ _ => by kernel_rfl)
noncomputable def f90_i_logarithm.w : FnW E := fnW 90 f90_i_logarithm.P sg_f f90_i_logarithm.A f90_i_logarithm.F f90_i_logarithm.ok

def f34_i_TenthsOf : Nat → Nat → Option (Int × Bool)
  | 0, _ => none
  | n + 1, x1 =>
    bd (f40_i_IsFinite n x1) fun r2 =>
    let b3 : Bool := r2
    br (!b3) (
     some ((0 : Int), false)) (
     br (fle FloatKind.f32 x1 0) (
      some ((0 : Int), false)) (
      bd ((fltToFlt FloatKind.f32 x1 FloatKind.f64)) fun y4 =>
      bd (f90_i_logarithm n y4) fun r5 =>
      let x6 : Nat := r5
      bd (xIntegral_even n (fdiv FloatKind.f64 (fmul FloatKind.f64 4641240890982006784 x6) 4612367379483415830)) fun r7 =>
      let x8 : Nat := r7
      bd ((fltToInt FloatKind.f64 x8 IntKind.i64)) fun y9 =>
      some (y9, true)))
def f34_i_TenthsOf.P : List Arg := [⟨.val, ⟨false, [.leaf], [.flt .f32 0]⟩⟩]
def f34_i_TenthsOf.A : RAlt (Int × Bool) := .one ⟨[⟨false, [.leaf], [.int .i64 0]⟩, ⟨false, [.leaf], [.bool false]⟩], [none]⟩ sg_ib
def f34_i_TenthsOf.F (n : Nat) (v : Nat) := f34_i_TenthsOf n v
noncomputable def f34_i_TenthsOf.O (n : Nat) : Orc := orcOf (E := E) [x89.w, f40_i_IsFinite.w, f90_i_logarithm.w] [] n
theorem f34_i_TenthsOf.ok : ∀ n v x, f34_i_TenthsOf.F n v = some x → evalFn E n 34 (flAs f34_i_TenthsOf.P (sg_f.pk v)) = some (f34_i_TenthsOf.A.enc x) :=
  fn_pure (modes := (fdAt 34).ms) (outs := (fdAt 34).os) (results := (fdAt 34).rs) f34_i_TenthsOf.O (c := c34) (keep := keepAt 34) (by kernel_rfl) (fun n => orcOf_cf _ _ n) (fun n => lpOk_of (bs := []) (by kernel_rfl) .nil) (fun _ => rfl) (fun _ _ => by kernel_rfl)
noncomputable def f34_i_TenthsOf.w : FnW E := fnW 34 f34_i_TenthsOf.P sg_f f34_i_TenthsOf.A f34_i_TenthsOf.F f34_i_TenthsOf.ok

def f6_l_FnExactTenthsOf : Nat → Nat → Option (Bool)
  | 0, _ => none
  | n + 1, x1 =>
    bd (f33_s_TenthsOf n x1) fun r2 =>
    let i3 : Int := r2.1
    let b4 : Bool := r2.2
    bd (f34_i_TenthsOf n x1) fun r5 =>
    let i6 : Int := r5.1
    let b7 : Bool := r5.2
    br (i6 != i3) (
     some false) (
     br (!(b7 == b4)) (
      some false) (
      some true))
def f6_l_FnExactTenthsOf.P : List Arg := [⟨.val, ⟨false, [.leaf], [.flt .f32 0]⟩⟩]
def f6_l_FnExactTenthsOf.A : RAlt (Bool) := .one ⟨[⟨false, [.leaf], [.bool false]⟩], [none]⟩ sg_b
def f6_l_FnExactTenthsOf.F (n : Nat) (v : Nat) := f6_l_FnExactTenthsOf n v
noncomputable def f6_l_FnExactTenthsOf.O (n : Nat) : Orc := orcOf (E := E) [f33_s_TenthsOf.w, f34_i_TenthsOf.w] [] n
theorem f6_l_FnExactTenthsOf.ok : ∀ n v x, f6_l_FnExactTenthsOf.F n v = some x → evalFn E n 6 (flAs f6_l_FnExactTenthsOf.P (sg_f.pk v)) = some (f6_l_FnExactTenthsOf.A.enc x) :=
  fn_pure (modes := (fdAt 6).ms) (outs := (fdAt 6).os) (results := (fdAt 6).rs) f6_l_FnExactTenthsOf.O (c := c6) (keep := keepAt 6) (by kernel_rfl) (fun n => orcOf_cf _ _ n) (fun n => lpOk_of (bs := []) (by kernel_rfl) .nil) (fun _ => rfl) (fun _ _ => by kernel_rfl)
noncomputable def f6_l_FnExactTenthsOf.w : FnW E := fnW 6 f6_l_FnExactTenthsOf.P sg_f f6_l_FnExactTenthsOf.A f6_l_FnExactTenthsOf.F f6_l_FnExactTenthsOf.ok
end Go.Proofs.Ythgenpcoelihiaa.D
end
section
/- FnExactTenthsOf, in plain Lean. -/
namespace Go.Proofs.Ythgenpcoelihiaa.D
open Go Go.Desk
set_option linter.unusedVariables false

theorem i_finite (n : Nat) (x : Nat) : f40_i_IsFinite (n + 1) x = some (fin32 x) := by rw [f40_i_IsFinite, sub_finite]

theorem s_fin (n x : Nat) : f78_s_l01Finite (n + 1) x = some (fin32 x) := by rw [f78_s_l01Finite, sub_finite]
theorem val_one_half : Val .f64 4609434218613702656 (3 / 2) := by
  have := read_val (k := .f64) (x := 4609434218613702656) (s := false) (m := 3 * 2 ^ 51) (e := -52) (by decide)
  have e : mv (3 * 2 ^ 51) (-52) = 3 / 2 := by
    rw [mv_shift]; unfold mv
    have h : p2 (-52 + ((51 : Nat) : Int)) * 2 = 1 := by
      have := p2_add (-52 + ((51 : Nat) : Int)) 1
      rw [p2_one] at this
      rw [← this, show (-52 : Int) + ((51 : Nat) : Int) + 1 = 0 by decide, p2_zero]
    have h3 : ((3 : Nat) : Rat) = 3 := rfl
    rw [h3]; grind
  rwa [sg_false, e] at this
theorem val_three_four : Val .f64 4604930618986332160 (3 / 4) := by
  have := read_val (k := .f64) (x := 4604930618986332160) (s := false) (m := 3 * 2 ^ 51) (e := -53) (by decide)
  have e : mv (3 * 2 ^ 51) (-53) = 3 / 4 := by
    rw [mv_shift]; unfold mv
    have h : p2 (-53 + ((51 : Nat) : Int)) * 4 = 1 := by
      have := p2_add (-53 + ((51 : Nat) : Int)) 2
      have h2 : p2 2 = 4 := by have := p2_add 1 1; rw [p2_one] at this; rw [show (2 : Int) = 1 + 1 by decide, this]; grind
      rw [h2] at this
      rw [← this, show (-53 : Int) + ((51 : Nat) : Int) + 2 = 0 by decide, p2_zero]
    have h3 : ((3 : Nat) : Rat) = 3 := rfl
    rw [h3]; grind
  rwa [sg_false, e] at this
theorem one64 : (4607182418800017408 : Nat) = FloatKind.f64.nearest 1 := by decide
theorem bin64 : 2 * FloatKind.f64.format.binade = 9007199254740992 := by decide
theorem p2_double (e : Int) : p2 (e + 1) = p2 e * 2 := by rw [p2_add, p2_one]
/-- a number of few digits, halved or doubled -/
theorem half_val {x m : Nat} {e : Int} (h : Val .f64 x (mv m e)) (hm : m ≤ 16777216) (h1 : -1000 ≤ e) (h2 : e ≤ 900) : Val .f64 (fdiv .f64 x 4611686018427387904) (mv m (e - 1)) := by
  have hlp : FloatKind.f64.format.leastPlace = -1074 := by decide
  have hr : Rep0 .f64 (mv m (e - 1)) := ⟨m, e - 1, by rw [bin64]; omega, by omega, rfl⟩
  have hv : mv m e / 2 = mv m (e - 1) := by
    have : mv m e = mv m (e - 1) * 2 := by
      unfold mv; rw [show e = e - 1 + 1 by omega, p2_double, show e - 1 + 1 - 1 = e - 1 by omega]; grind
    rw [this]; grind
  have hnn := mv_nonneg m (e - 1)
  have hf : mv m (e - 1) < p2 (topE .f64) := by
    have h3 : mv m (e - 1) ≤ mv (2 ^ 24) (e - 1) := mv_le.2 (by omega)
    rw [mv_pow] at h3
    exact rlt h3 (p2_lt (show e - 1 + ((24 : Nat) : Int) < 1024 by omega))
  obtain ⟨R, q1, q2⟩ := div_val h val_two64 (by decide) hr hf (by rw [hv]; grind) (by rw [hv]; grind)
  rw [hv] at q2
  exact q1.near_eq q2 hr.rep
theorem twice_val {x m : Nat} {e : Int} (h : Val .f64 x (mv m e)) (hm : m ≤ 16777216) (h1 : -1000 ≤ e) (h2 : e ≤ 900) : Val .f64 (fmul .f64 x 4611686018427387904) (mv m (e + 1)) := by
  have hlp : FloatKind.f64.format.leastPlace = -1074 := by decide
  have hr : Rep0 .f64 (mv m (e + 1)) := ⟨m, e + 1, by rw [bin64]; omega, by omega, rfl⟩
  have hv : mv m e * 2 = mv m (e + 1) := by unfold mv; rw [p2_double]; grind
  have hnn := mv_nonneg m (e + 1)
  have hf : mv m (e + 1) < p2 (topE .f64) := by
    have h3 : mv m (e + 1) ≤ mv (2 ^ 24) (e + 1) := mv_le.2 (by omega)
    rw [mv_pow] at h3
    exact rlt h3 (p2_lt (show e + 1 + ((24 : Nat) : Int) < 1024 by omega))
  obtain ⟨R, q1, q2⟩ := mul_val h val_two64 hr hf (by rw [hv]; grind) (by rw [hv]; grind)
  rw [hv] at q2
  exact q1.near_eq q2 hr.rep
theorem half_loop (n n' : Nat) : ∀ (j m m' x M : Nat) (e c : Int), Val .f64 x (mv M e) → M ≤ 16777216 → -1000 ≤ e - j → e ≤ 900 → mv M e < 3 / 2 * p2 j → p2 (-149) ≤ mv M e → c.natAbs + j ≤ 200 → j < m → j < m' →
    ∃ y e' c', Val .f64 y (mv M e') ∧ e - j ≤ e' ∧ e' ≤ e ∧ mv M e' < 3 / 2 ∧ p2 (-149) ≤ mv M e' ∧ (c' : Int).natAbs ≤ c.natAbs + j ∧
      f88_s_l01LogWide.l0 n m x c = some (y, c') ∧ f90_i_logarithm.l0 n' m' x (FloatKind.f64.nearest c) = some (y, FloatKind.f64.nearest c') := by
  intro j
  induction j with
  | zero =>
    intro m m' x M e c hx hM h1 h2 h3 h4 hc hm hm'
    obtain ⟨m, rfl⟩ : ∃ k, m = k + 1 := ⟨m - 1, by omega⟩
    obtain ⟨m', rfl⟩ : ∃ k, m' = k + 1 := ⟨m' - 1, by omega⟩
    have h3 : mv M e < 3 / 2 := by
      rw [show ((0 : Nat) : Int) = 0 from rfl, p2_zero] at h3; grind
    have hg : fge .f64 x 4609434218613702656 = false := by
      cases h : fge .f64 x 4609434218613702656
      · rfl
      · have := (fge_val hx val_one_half).1 h; grind
    refine ⟨x, e, c, hx, by omega, by omega, h3, h4, by omega, ?_, ?_⟩
    · rw [f88_s_l01LogWide.l0, hg]; rfl
    · rw [f90_i_logarithm.l0, hg]; rfl
  | succ j ih =>
    intro m m' x M e c hx hM h1 h2 h3 h4 hc hm hm'
    obtain ⟨m, rfl⟩ : ∃ k, m = k + 1 := ⟨m - 1, by omega⟩
    obtain ⟨m', rfl⟩ : ∃ k, m' = k + 1 := ⟨m' - 1, by omega⟩
    rw [f88_s_l01LogWide.l0, f90_i_logarithm.l0]
    cases hg : fge .f64 x 4609434218613702656
    · have h5 : mv M e < 3 / 2 := by
        refine Rat.not_le.1 fun h => ?_
        rw [(fge_val hx val_one_half).2 h] at hg; cases hg
      exact ⟨x, e, c, hx, by omega, by omega, h5, h4, by omega, rfl, rfl⟩
    · have h5 := (fge_val hx val_one_half).1 hg
      have e1 : fadd .f64 (FloatKind.f64.nearest c) 4607182418800017408 = FloatKind.f64.nearest (c + 1) := by
        rw [one64]; exact int_add (by rw [bin64]; omega) (by rw [bin64]; omega) (by rw [bin64]; omega)
      have hh : mv M e = mv M (e - 1) * 2 := by
        unfold mv; rw [show e = e - 1 + 1 by omega, p2_double, show e - 1 + 1 - 1 = e - 1 by omega]; grind
      have hp : p2 ((j + 1 : Nat) : Int) = p2 (j : Int) * 2 := by rw [show ((j + 1 : Nat) : Int) = (j : Int) + 1 by omega, p2_double]
      have hsmall : p2 (-149) ≤ 1 / 2 := by
        have := p2_le (show (-149 : Int) ≤ -1 by decide)
        have h6 : p2 (-1) * 2 = 1 := by have := p2_add (-1) 1; rw [p2_one] at this; rw [← this, show (-1 : Int) + 1 = 0 by decide, p2_zero]
        grind
      obtain ⟨y, e', c', q1, q2, q3, q4, q5, q6, q7, q8⟩ := ih m m' _ M (e - 1) (c + 1) (half_val hx hM (by omega) h2) hM (by omega) (by omega) (by rw [hp] at h3; grind) (by grind) (by omega) (by omega) (by omega)
      refine ⟨y, e', c', q1, by omega, by omega, q4, q5, by omega, ?_, ?_⟩
      · rw [show IntKind.i64.wrap (c + 1) = c + 1 by rw [wrap64] <;> omega]; exact q7
      · rw [e1]; exact q8
theorem twice_loop (n n' : Nat) : ∀ (j m m' x M : Nat) (e c : Int), Val .f64 x (mv M e) → M ≤ 16777216 → -1000 ≤ e → e + j ≤ 900 → mv M e < 3 / 2 → 3 / 4 ≤ mv M e * p2 j → c.natAbs + j ≤ 400 → j < m → j < m' →
    ∃ y e' c', Val .f64 y (mv M e') ∧ mv M e' < 3 / 2 ∧ 3 / 4 ≤ mv M e' ∧ (c' : Int).natAbs ≤ c.natAbs + j ∧
      f88_s_l01LogWide.l1 n m x c = some (y, c') ∧ f90_i_logarithm.l1 n' m' x (FloatKind.f64.nearest c) = some (y, FloatKind.f64.nearest c') := by
  intro j
  induction j with
  | zero =>
    intro m m' x M e c hx hM h1 h2 h3 h4 hc hm hm'
    obtain ⟨m, rfl⟩ : ∃ k, m = k + 1 := ⟨m - 1, by omega⟩
    obtain ⟨m', rfl⟩ : ∃ k, m' = k + 1 := ⟨m' - 1, by omega⟩
    have h4 : 3 / 4 ≤ mv M e := by
      rw [show ((0 : Nat) : Int) = 0 from rfl, p2_zero] at h4; grind
    have hg : flt .f64 x 4604930618986332160 = false := by
      cases h : flt .f64 x 4604930618986332160
      · rfl
      · have := (flt_val hx val_three_four).1 h; grind
    refine ⟨x, e, c, hx, h3, h4, by omega, ?_, ?_⟩
    · rw [f88_s_l01LogWide.l1, hg]; rfl
    · rw [f90_i_logarithm.l1, hg]; rfl
  | succ j ih =>
    intro m m' x M e c hx hM h1 h2 h3 h4 hc hm hm'
    obtain ⟨m, rfl⟩ : ∃ k, m = k + 1 := ⟨m - 1, by omega⟩
    obtain ⟨m', rfl⟩ : ∃ k, m' = k + 1 := ⟨m' - 1, by omega⟩
    rw [f88_s_l01LogWide.l1, f90_i_logarithm.l1]
    cases hg : flt .f64 x 4604930618986332160
    · have h5 : 3 / 4 ≤ mv M e := by
        refine Rat.not_lt.1 fun h => ?_
        rw [(flt_val hx val_three_four).2 h] at hg; cases hg
      exact ⟨x, e, c, hx, h3, h5, by omega, rfl, rfl⟩
    · have h5 := (flt_val hx val_three_four).1 hg
      have e1 : fsub .f64 (FloatKind.f64.nearest c) 4607182418800017408 = FloatKind.f64.nearest (c - 1) := by
        rw [one64]; exact int_sub (by rw [bin64]; omega) (by rw [bin64]; omega) (by rw [bin64]; omega)
      have hh : mv M (e + 1) = mv M e * 2 := by unfold mv; rw [p2_double]; grind
      have hp : p2 ((j + 1 : Nat) : Int) = p2 (j : Int) * 2 := by rw [show ((j + 1 : Nat) : Int) = (j : Int) + 1 by omega, p2_double]
      obtain ⟨y, e', c', q1, q4, q5, q6, q7, q8⟩ := ih m m' _ M (e + 1) (c - 1) (twice_val hx hM h1 (by omega)) hM (by omega) (by omega) (by grind) (by
        rw [hp] at h4; rw [hh]
        have : mv M e * (p2 (j : Int) * 2) = mv M e * 2 * p2 (j : Int) := by grind
        grind) (by omega) (by omega) (by omega)
      refine ⟨y, e', c', q1, q4, q5, by omega, ?_, ?_⟩
      · rw [show IntKind.i64.wrap (c - 1) = c - 1 by rw [wrap64] <;> omega]; exact q7
      · rw [e1]; exact q8
theorem series_loop (n n' : Nat) (c : Int) (d s u : Nat) (hu : Bd .f64 u 1) : ∀ (j m m' q B : Nat), Bd .f64 q B → B + j ≤ 1000 → j < m → j < m' →
    ∃ r, Bd .f64 r (B + j) ∧ f88_s_l01LogWide.l2 n m c s u q (2 * (j : Int) - 1) = some (c, s, r) ∧ f90_i_logarithm.l2 n' m' d s u q (FloatKind.f64.nearest (2 * (j : Int) - 1)) = some (d, s, r) := by
  intro j
  induction j with
  | zero =>
    intro m m' q B hq hB hm hm'
    obtain ⟨m, rfl⟩ : ∃ k, m = k + 1 := ⟨m - 1, by omega⟩
    obtain ⟨m', rfl⟩ : ∃ k, m' = k + 1 := ⟨m' - 1, by omega⟩
    refine ⟨q, hq, ?_, ?_⟩
    · rw [f88_s_l01LogWide.l2]; rfl
    · have : fge .f64 (FloatKind.f64.nearest (2 * ((0 : Nat) : Int) - 1)) 4607182418800017408 = false := by decide
      rw [f90_i_logarithm.l2, this]; rfl
  | succ j ih =>
    intro m m' q B hq hB hm hm'
    obtain ⟨m, rfl⟩ : ∃ k, m = k + 1 := ⟨m - 1, by omega⟩
    obtain ⟨m', rfl⟩ : ∃ k, m' = k + 1 := ⟨m' - 1, by omega⟩
    have e0 : 2 * ((j + 1 : Nat) : Int) - 1 = 2 * (j : Int) + 1 := by omega
    have hk := int_val (k := .f64) (n := 2 * (j : Int) + 1) (by rw [bin64]; omega)
    have hk1 : (1 : Rat) ≤ ((2 * (j : Int) + 1 : Int) : Rat) := by
      rw [show (1 : Rat) = ((1 : Int) : Rat) from rfl]; exact Rat.intCast_le_intCast.2 (by omega)
    have hge : fge .f64 (FloatKind.f64.nearest (2 * (j : Int) + 1)) 4607182418800017408 = true := (fge_val hk val_one64).2 hk1
    have e1 : fsub .f64 (FloatKind.f64.nearest (2 * (j : Int) + 1)) 4611686018427387904 = FloatKind.f64.nearest (2 * (j : Int) - 1) := by
      rw [show (4611686018427387904 : Nat) = FloatKind.f64.nearest 2 by decide, int_sub (by rw [bin64]; omega) (by rw [bin64]; omega) (by rw [bin64]; omega)]
      congr 1; omega
    have hone : Bd .f64 4607182418800017408 1 := ⟨1, val_one64, by decide, by decide⟩
    have hb := (hone.div hk hk1 (by rw [bin64]; omega)).add (hu.mul hq (by rw [bin64]; omega)) (by rw [bin64]; omega)
    obtain ⟨r, q1, q2, q3⟩ := ih m m' _ (B + 1) (hb.mono (by omega)) (by omega) (by omega) (by omega)
    refine ⟨r, q1.mono (by omega), ?_, ?_⟩
    · rw [f88_s_l01LogWide.l2, e0, decide_eq_true (show (2 * (j : Int) + 1 ≥ 1) by omega), show IntKind.i64.wrap (2 * (j : Int) + 1 - 2) = 2 * (j : Int) - 1 by rw [wrap64] <;> omega]
      exact q2
    · rw [f90_i_logarithm.l2, e0, hge, e1]
      exact q3
theorem logs (n n' : Nat) (hn : 400 < n) (hn' : 400 < n') {x : Nat} (hx : W32 x) (hf : fin32 x = true) (hp : fgt .f32 x 0 = true) : ∃ r, Bd .f64 r 1000 ∧ f88_s_l01LogWide (n + 1) (wide x) = some r ∧ f90_i_logarithm (n' + 1) (wide x) = some r := by
  obtain ⟨s, M, e, hd⟩ := fin_read hf
  obtain ⟨a1, a2, a3, -, -⟩ := read_norm hd
  have hb : 2 * FloatKind.f32.format.binade = 16777216 := by decide
  have hl : FloatKind.f32.format.leastPlace = -149 := by decide
  have hv32 := read_val hd
  have hpos : 0 < Go.Desk.sg s (mv M e) := (fgt_val hv32 (val_zero .f32)).1 hp
  have hnn := mv_nonneg M e
  have hs : s = false := by cases s <;> simp only [sg_true, sg_false] at hpos <;> first | rfl | (exfalso; grind)
  subst hs
  rw [sg_false] at hv32 hpos
  have hM : 1 ≤ M := by
    rcases Nat.eq_zero_or_pos M with h | h
    · subst h; rw [mv_zero] at hpos; exact absurd hpos (by decide)
    · exact h
  have he : e ≤ 104 := (single_finite hd).2.2
  have hw := wide_val hv32
  have hbig : mv M e < 3 / 2 * p2 (128 : Nat) := by
    have h1 : mv M e ≤ mv (2 ^ 24) e := mv_le.2 (by omega)
    rw [mv_pow] at h1
    have h2 := p2_le (show e + ((24 : Nat) : Int) ≤ ((128 : Nat) : Int) by omega)
    have h3 := p2_pos ((128 : Nat) : Int)
    grind
  have hsm : p2 (-149) ≤ mv M e := by
    have h1 : mv 1 e ≤ mv M e := mv_le.2 hM
    rw [mv_one] at h1
    have h2 := p2_le (show (-149 : Int) ≤ e by omega)
    grind
  obtain ⟨y, e', c', q1, q2, q3, q4, q5, q6, q7, q8⟩ := half_loop n n' 128 n n' (wide x) M e 0 hw (by omega) (by omega) (by omega) hbig hsm (by decide) (by omega) (by omega)
  have h34 : 3 / 4 ≤ mv M e' * p2 ((149 : Nat) : Int) := by
    have h1 : p2 (-149) * p2 ((149 : Nat) : Int) = 1 := by rw [← p2_add, show (-149 : Int) + ((149 : Nat) : Int) = 0 by decide, p2_zero]
    have h2 : p2 (-149) * p2 ((149 : Nat) : Int) ≤ mv M e' * p2 ((149 : Nat) : Int) := Rat.mul_le_mul_of_nonneg_right q5 (Rat.le_of_lt (p2_pos _))
    grind
  obtain ⟨z, e2, c2, r1, r2, r3, r4, r5, r6⟩ := twice_loop n n' 149 n n' y M e' c' q1 (by omega) (by omega) (by omega) q4 h34 (by omega) (by omega) (by omega)
  -- the quotient
  have hone : Bd .f64 4607182418800017408 1 := ⟨1, val_one64, by decide, by decide⟩
  have htop : (1 : Rat) < p2 (topE .f64) := nat_top .f64 (B := 1) (by rw [bin64]; omega)
  have hrep1 : Rep0 .f64 (1 : Rat) := rep_nat .f64 (B := 1) (by rw [bin64]; omega)
  have hrep3 : Rep0 .f64 (3 : Rat) := rep_nat .f64 (B := 3) (by rw [bin64]; omega)
  have htop3 : (3 : Rat) < p2 (topE .f64) := nat_top .f64 (B := 3) (by rw [bin64]; omega)
  obtain ⟨N, t1, t2⟩ := sub_val r1 val_one64 hrep1 htop (by grind) (by grind)
  have tN : Bd .f64 (fsub .f64 z 4607182418800017408) 1 := ⟨N, t1, by have := (t2 _ hrep1.neg).2 (by grind); grind, by have := (t2 _ hrep1.rep).1 (by grind); grind⟩
  obtain ⟨D, u1, u2⟩ := add_val r1 val_one64 hrep3 htop3 (by grind) (by grind)
  have uD : 1 ≤ D := (u2 _ hrep1.rep).2 (by grind)
  have hS := tN.div u1 uD (by rw [bin64]; omega)
  have hU := hS.mul hS (by rw [bin64]; omega)
  obtain ⟨q, v1, v2, v3⟩ := series_loop n n' c2 (FloatKind.f64.nearest c2) (fdiv .f64 (fsub .f64 z 4607182418800017408) (fadd .f64 z 4607182418800017408)) _ hU 13 n n' 0 0 ⟨0, val_zero .f64, by decide, by decide⟩ (by omega) (by omega) (by omega)
  have htwo : Bd .f64 4611686018427387904 2 := ⟨2, val_two64, by decide, by decide⟩
  have hln : Bd .f64 4604418534313441775 1 := by
    have h1 : flt .f64 4604418534313441775 4607182418800017408 = true := by decide
    have h2 : fge .f64 4604418534313441775 0 = true := by decide
    obtain ⟨v, w1, w2, w3⟩ := between_val (val_zero .f64) val_one64 h2 h1
    exact ⟨v, w1, by grind, by grind⟩
  have hr := (htwo.mul (hS.mul v1 (by rw [bin64]; omega)) (by rw [bin64]; omega)).add ((Bd.int (k := .f64) (n := c2) (B := 300) (by omega) (by rw [bin64]; omega)).mul hln (by rw [bin64]; omega)) (by rw [bin64]; omega)
  refine ⟨_, hr.mono (by omega), ?_, ?_⟩
  · have hx0 : isNaN .f64 (wide x) = false := hw.num
    have c1 : flt .f64 (wide x) 0 = false := by
      cases h : flt .f64 (wide x) 0
      · rfl
      · have := (flt_val hw (val_zero .f64)).1 h; grind
    have c2' : feq .f64 (wide x) 0 = false := by
      cases h : feq .f64 (wide x) 0
      · rfl
      · have := (feq_val hw (val_zero .f64)).1 h; grind
    have c3 : f114_mathIsInf n (wide x) 1 = some false := by
      obtain ⟨n, rfl⟩ : ∃ k, n = k + 1 := ⟨n - 1, by omega⟩
      have hmx : fgt .f64 (wide x) 9218868437227405311 = false := by
        have hm := read_val (k := .f64) (x := 9218868437227405311) (s := false) (m := 2 ^ 53 - 1) (e := 971) (by decide)
        cases h : fgt .f64 (wide x) 9218868437227405311
        · rfl
        · have h1 := (fgt_val hw hm).1 h
          rw [sg_false] at h1
          have h2 : mv (2 ^ 52) 971 ≤ mv (2 ^ 53 - 1) 971 := mv_le.2 (by decide)
          rw [mv_pow] at h2
          have h3 : mv M e ≤ mv (2 ^ 24) e := mv_le.2 (by omega)
          rw [mv_pow] at h3
          have h4 := p2_le (show e + ((24 : Nat) : Int) ≤ 971 + ((52 : Nat) : Int) by omega)
          grind
      rw [f114_mathIsInf, hmx]; rfl
    rw [f88_s_l01LogWide, fne_nan, hx0, c1, c2', c3]
    simp only [br_f, bd_s, q7, r5]
    have v2 : f88_s_l01LogWide.l2 n n c2 (fdiv .f64 (fsub .f64 z 4607182418800017408) (fadd .f64 z 4607182418800017408)) (fmul .f64 (fdiv .f64 (fsub .f64 z 4607182418800017408) (fadd .f64 z 4607182418800017408)) (fdiv .f64 (fsub .f64 z 4607182418800017408) (fadd .f64 z 4607182418800017408))) 0 25 = _ := v2
    rw [v2]; rfl
  · have q8 : f90_i_logarithm.l0 n' n' (wide x) 0 = some (y, FloatKind.f64.nearest c') := q8
    have k25 : (4627730092099895296 : Nat) = FloatKind.f64.nearest (2 * ((13 : Nat) : Int) - 1) := by decide
    rw [f90_i_logarithm, q8]
    simp only [bd_s, r6]
    rw [k25, v3]; rfl
theorem both (n n' : Nat) (hn : 500 < n) (hn' : 500 < n') {x : Nat} (hx : W32 x) : ∃ r, f33_s_TenthsOf (n + 1) x = some r ∧ f34_i_TenthsOf (n' + 1) x = some r := by
  obtain ⟨n, rfl⟩ : ∃ k, n = k + 1 := ⟨n - 1, by omega⟩
  obtain ⟨n', rfl⟩ : ∃ k, n' = k + 1 := ⟨n' - 1, by omega⟩
  rw [f33_s_TenthsOf, f34_i_TenthsOf, s_fin, i_finite]
  simp only [bd_s, br_not]
  cases hf : fin32 x
  case false => exact ⟨_, rfl, rfl⟩
  have hn0 := fin_num hf
  have n0 : isNaN .f32 0 = false := by decide
  have hle : fle .f32 x 0 = !fgt .f32 x 0 := by
    rw [fle_key, fgt_key]; unfold num2; rw [hn0, n0, Bool.eq_iff_iff]; simp
  rw [hle]
  simp only [br_t, br_not]
  cases hp : fgt .f32 x 0
  case false => exact ⟨_, rfl, rfl⟩
  obtain ⟨r, h1, h2, h3⟩ := logs n n' (by omega) (by omega) hx hf hp
  have h200 : Bd .f64 4641240890982006784 200 := by
    have : (4641240890982006784 : Nat) = FloatKind.f64.nearest 200 := by decide
    rw [this]; exact Bd.int (by decide) (by rw [bin64]; omega)
  have hten : ∃ w, Val .f64 4612367379483415830 w ∧ 1 ≤ w := by
    have h1 : fge .f64 4612367379483415830 4607182418800017408 = true := by decide
    have h2 : flt .f64 4612367379483415830 4616189618054758400 = true := by decide
    have h4 : Val .f64 4616189618054758400 4 := by
      have := int_val (k := .f64) (n := 4) (by decide)
      rwa [show FloatKind.f64.nearest 4 = 4616189618054758400 by decide] at this
    obtain ⟨v, w1, w2, w3⟩ := between_val val_one64 h4 h1 h2
    exact ⟨v, w1, w2⟩
  obtain ⟨w, w1, w2⟩ := hten
  have hq := (h200.mul h1 (by rw [bin64]; omega)).div w1 w2 (by rw [bin64]; omega)
  obtain ⟨k, k1, -⟩ := (hq.even (by rw [bin64]; omega)).toInt (by omega)
  rw [fltToFlt_wide]
  have hxi : ∀ n y, xIntegral_even (n + 1) y = some (integralF .even y) := fun _ _ => rfl
  simp only [br_t, bd_s, h2, h3, hxi, k1]
  exact ⟨_, rfl, rfl⟩
theorem exact_ (x : Nat) (gx : GoodF .f32 x) : ∃ n, f6_l_FnExactTenthsOf n x = some true := by
  refine ⟨1000, ?_⟩
  obtain ⟨⟨i, b⟩, h1, h2⟩ := both 998 998 (by omega) (by omega) gx.w32
  show f6_l_FnExactTenthsOf (999 + 1) x = some true
  have h1 : f33_s_TenthsOf 999 x = some (i, b) := h1
  have h2 : f34_i_TenthsOf 999 x = some (i, b) := h2
  rw [f6_l_FnExactTenthsOf, h1, h2]
  simp [br, bd]
theorem law6 : ∀ args, LawArgs E Try.f6.params.toList args → ∃ N os, evalFn E N 6 args = some ⟨[⟨false, [.leaf], [.bool true]⟩], os⟩ := by
  intro args h0
  have hp : Try.f6.params.toList = [24] := by kernel_rfl
  rw [hp] at h0
  obtain ⟨ts0, r0, rfl, hw0, h1⟩ := h0.cons_inv (d := ⟨false, 1, 4, [.leaf], [.flt .f32 0], .flt .f32⟩) (by kernel_rfl)
  obtain ⟨a0, rfl, g0⟩ := hw0.flt_inv (k := .f32) (d := ⟨false, 1, 4, [.leaf], [.flt .f32 0], .flt .f32⟩) (by kernel_rfl) rfl
  obtain rfl := h1.nil_inv
  obtain ⟨N, hN⟩ := exact_ a0 g0
  exact ⟨N, _, f6_l_FnExactTenthsOf.ok N (a0) true hN⟩


end Go.Proofs.Ythgenpcoelihiaa.D
end
section
/- FnExactTenthsOf holds: for every input the law returns true, and its arguments read as before. -/
namespace Go.Proofs.Ythgenpcoelihiaa.fnExactTenthsOf
open Go Go.ChangeShapes Go.WideShapes Go.ChangeAt Go.RowKit Go.Desk
set_option linter.unusedVariables false
theorem own : ownKnob Try.prog.godebug = none := by kernel_rfl
theorem laidOut : laidOutB Try.prog = true := by kernel_rfl
set_option maxRecDepth 100000 in
theorem lifted (os : Os) (started : os.Started) (H : Type) (enc : TypeId × Value → H) :
    ReturnsInHanded {} Try.checked os 6 .any (Rows.fnExactTenthsOfSpec.pre6 enc Try.prog Try.f6 Rows.fnExactTenthsOfRow.domain false) (Rows.fnExactTenthsOfSpec.post enc Try.prog Try.f6 false true false false) := by
  refine returnsInHanded_of_change (C := Try.checked) own started (by kernel_rfl) Try.func6
    (ChangeSpec.witness6 (enc := enc) (C := Try.checked) false ⟨#[], #[.float .f32 0], []⟩ 8 (by kernel_rfl) (by kernel_rfl) (by kernel_rfl) (by kernel_rfl)) ?_
  intro W base args ds gs before hval hW hcnd _
  exact law_contract (c := D.c6) Try.checked.mixed D.tysOk D.fnOk Try.func6 (by kernel_rfl) (by kernel_rfl) (by kernel_rfl) Try.underlying4 rfl
    (fun ds h => by
      rw [show Try.f6.params.toList.length = 1 by kernel_rfl] at h
      match ds, h with
      | [_], _ => rfl)
    laidOut (N := 8) (by kernel_rfl) (by kernel_rfl) D.law6 hval hW
theorem over : Rows.fnExactTenthsOfRow.holds Try.pinned (OpenSpec.ofChange Rows.fnExactTenthsOfSpec) :=
  OpenClaim.holds_of_wide 6 Try.f6 rfl rfl rfl rfl rfl rfl rfl ⟨rfl, rfl, rfl, rfl, rfl⟩ rfl rfl rfl rfl rfl (by kernel_rfl) Try.func6 (by kernel_rfl)
    (of_decide_eq_true (by kernel_rfl)) (by unfold Func.isWrapper; first | (rw [if_pos (by decide +kernel)]; kernel_rfl) | (rw [if_neg (by decide +kernel)]; exact ⟨rfl, rfl⟩))
    (fun os started H enc _ => lifted os started H enc)
theorem proved : Rows.FnExactTenthsOfSaid := over
#print axioms proved
end Go.Proofs.Ythgenpcoelihiaa.fnExactTenthsOf
namespace Go.Proofs.Ythgenpcoelihiaa
/-- The row, under a short name, for the claim. -/
theorem fnExactTenthsOf_holds : Rows.FnExactTenthsOfSaid := fnExactTenthsOf.proved
end Go.Proofs.Ythgenpcoelihiaa
end
