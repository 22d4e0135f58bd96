/- FnExactHoldPeaks holds: for every input the law returns true, and its arguments read as before. -/
import Derived.Test.YtcadjmbpmbdliabChecked
import Derived.Test.YtcadjmbpmbdliabDeskE
import Derived.KernelRfl
import Derived.Test.YtcadjmbpmbdliabRows
import Derived.WalkKit
import Derived.ProofKit
import Derived.OpenShut
import Derived.ShutString
import Derived.ChangeOld
import Derived.Below
import Derived.SizedLaws
set_option linter.all false
section
/- What math.Abs owes: tables of its own, and the reading of its code. -/
namespace Go.Proofs.Ytcadjmbpmbdliab.DA
open Go Go.Desk
def bodyOf (f : Func) : Code := match f.body with
  | some c => c
  | none => .skip
def tyTab : List (Nat × TD) := [
  (33, ⟨false, 1, 8, [.leaf], [.flt .f64 0], .flt .f64⟩),
  (39, ⟨false, 1, 8, [.leaf], [.int .u64 0], .int .u64⟩)]
noncomputable def c16 : Code := bodyOf Try.f16
noncomputable def fnTab : List (Nat × FD) := [
  (16, .code c16 [.val] [] [(2, none)] [(0, [0]), (1, [0])]),
  (18, .ext (pF64frombits)),
  (19, .ext (pF64bits))]
noncomputable def E : Env := ⟨fun t => lookT tyTab t, lookF fnTab⟩
noncomputable def fdAt (n : Nat) : FD := match lookF fnTab n with
  | some d => d
  | none => .ext fun _ => none
noncomputable def keepAt (n : Nat) : List (Nat × List Nat) := match lookF fnTab n with
  | some d => d.keep
  | none => []
theorem tysOk : TysOk Try.prog E := tysOk_of (l := tyTab) (fun _ => rfl) (by kernel_rfl)
theorem ft16 : FnTab Try.prog E 16 (fdAt 16) := fnTab_code (c := c16) (modes := (fdAt 16).ms) (outs := (fdAt 16).os) (results := (fdAt 16).rs) (keep := (fdAt 16).keep) Try.func16 (by kernel_rfl) (by kernel_rfl) (by kernel_rfl)
theorem ft18 : FnTab Try.prog E 18 (.ext (pF64frombits)) := ext_pF64frombits Try.func18 (by kernel_rfl) (by kernel_rfl) (by kernel_rfl) (by kernel_rfl)
theorem ft19 : FnTab Try.prog E 19 (.ext (pF64bits)) := ext_pF64bits Try.func19 (by kernel_rfl) (by kernel_rfl) (by kernel_rfl) (by kernel_rfl)
theorem allFns : AllFns Try.prog E fnTab := .cons ft16 (.cons ft18 (.cons ft19 (.nil)))
theorem fnOk : ∀ f fd, E.fn f = some fd → FnTab Try.prog E f fd := fnTab_of (l := fnTab) (fun _ => rfl) allFns
end Go.Proofs.Ytcadjmbpmbdliab.DA
section
namespace Go.Proofs.Ytcadjmbpmbdliab.DA
open Go Go.Desk
set_option linter.unusedVariables false
noncomputable def x18.w : FnW E := xF64frombits.w 18 (by kernel_rfl)

noncomputable def x19.w : FnW E := xF64bits.w 19 (by kernel_rfl)

def f16_mathAbs : Nat → Nat → Option (Nat)
  | 0, _ => none
  | n + 1, x1 =>
    bd (xF64bits n x1) fun r2 =>
    let i3 : Int := r2
    bd (xF64frombits n (intBits BinOp.andNot IntKind.u64 i3 (9223372036854775808 : Int))) fun r4 =>
    let x5 : Nat := r4
    some x5
def sg_f : Sig (Nat) where
  pk := fun v => [.flt v]
  up := fun ls => match ls with
    | [.flt a0] => some a0
    | _ => none
  ok := by
    intro ls v h
    split at h
    · cases h; rfl
    · cases h

def f16_mathAbs.P : List Arg := [⟨.val, ⟨false, [.leaf], [.flt .f64 0]⟩⟩]
def f16_mathAbs.A : RAlt (Nat) := .one ⟨[⟨false, [.leaf], [.flt .f64 0]⟩], [none]⟩ sg_f
def f16_mathAbs.F (n : Nat) (v : Nat) := f16_mathAbs n v
noncomputable def f16_mathAbs.O (n : Nat) : Orc := orcOf (E := E) [x18.w, x19.w] [] n
theorem f16_mathAbs.ok : ∀ n v x, f16_mathAbs.F n v = some x → evalFn E n 16 (flAs f16_mathAbs.P (sg_f.pk v)) = some (f16_mathAbs.A.enc x) :=
  fn_pure (modes := (fdAt 16).ms) (outs := (fdAt 16).os) (results := (fdAt 16).rs) f16_mathAbs.O (c := c16) (keep := keepAt 16) (by kernel_rfl) (fun n => orcOf_cf _ _ n) (fun n => lpOk_of (bs := []) (by kernel_rfl) .nil) (fun _ => rfl) (fun _ _ => by kernel_rfl)
noncomputable def f16_mathAbs.w : FnW E := fnW 16 f16_mathAbs.P sg_f f16_mathAbs.A f16_mathAbs.F f16_mathAbs.ok
end Go.Proofs.Ytcadjmbpmbdliab.DA
end
namespace Go.Proofs.Ytcadjmbpmbdliab.DA
open Go Go.Desk
theorem absOk : ExtOk Try.prog 16 pAbs := ext_pAbs_of Try.checked.mixed tysOk fnOk
  (fun x hN hx => ⟨3, f16_mathAbs.ok 3 x _ (abs_plain 1 hN)⟩)
  ⟨5, by kernel_rfl⟩
end Go.Proofs.Ytcadjmbpmbdliab.DA
end
section
/- The tables of the reading: types and functions of the translation, with what is kept at each region's beginning (written by a program of this workplace). -/
namespace Go.Proofs.Ytcadjmbpmbdliab.D
open Go Go.Desk
def bodyOf (f : Func) : Code := match f.body with
  | some c => c
  | none => .skip
def tyTab : List (Nat × TD) := [
  (2, ⟨false, 1, 8, [.leaf], [.int .i64 0], .int .i64⟩),
  (3, ⟨false, 1, 8, [.leaf], [.int .i64 0], .int .i64⟩),
  (4, ⟨false, 1, 1, [.leaf], [.bool false], .bool⟩),
  (22, ⟨false, 1, 24, [.sl .own [.leaf]], [.lst 0 []], .slc 23⟩),
  (23, ⟨false, 1, 4, [.leaf], [.flt .f32 0], .flt .f32⟩),
  (33, ⟨false, 1, 8, [.leaf], [.flt .f64 0], .flt .f64⟩),
  (36, ⟨false, 1, 4, [.leaf], [.int .u32 0], .int .u32⟩)]
noncomputable def c3 : Code := bodyOf Try.f3
noncomputable def c4 : Code := bodyOf Try.f4
noncomputable def c5 : Code := bodyOf Try.f5
noncomputable def c6 : Code := bodyOf Try.f6
noncomputable def c7 : Code := bodyOf Try.f7
noncomputable def c8 : Code := bodyOf Try.f8
noncomputable def c9 : Code := bodyOf Try.f9
noncomputable def c10 : Code := bodyOf Try.f10
noncomputable def c11 : Code := bodyOf Try.f11
noncomputable def c12 : Code := bodyOf Try.f12
noncomputable def c13 : Code := bodyOf Try.f13
noncomputable def c14 : Code := bodyOf Try.f14
noncomputable def c15 : Code := bodyOf Try.f15
noncomputable def fnTab : List (Nat × FD) := [
  (3, .code c3 [.val, .val, .val] [] [(6, none)] [(0, [0, 1, 2]), (1, [0, 1, 2]), (2, []), (3, [0, 1, 2]), (4, [0, 1, 2, 7, 8]), (5, [0, 1, 2, 7, 8, 9]), (6, [0, 1, 2, 7, 8, 9, 10, 11]), (7, []), (8, [0, 1, 2, 7, 8, 9, 10, 11]), (9, []), (10, [0, 1, 2, 7, 8, 9, 10, 11]), (11, [0, 1, 2, 7, 8, 9, 10, 11, 12]), (12, [0, 1, 2, 7, 8, 10, 11, 12]), (13, []), (14, [0, 1, 2, 7, 8, 10]), (15, [0, 1, 2, 7, 8, 10, 13]), (16, [0, 1, 2, 7, 8, 10, 13]), (17, [0, 1, 2, 7, 8, 10, 13, 14]), (18, [0, 1, 2, 7, 8, 10, 13, 14]), (19, []), (20, [0, 1, 2, 7, 8, 10, 13, 14]), (21, []), (22, [0, 1, 2, 7, 8, 10, 13]), (23, [7, 8, 10, 13, 15, 16]), (24, []), (25, [10, 13]), (26, [10, 13, 14]), (27, [13, 14]), (28, []), (29, [13, 14]), (30, []), (31, [])]),
  (4, .code c4 [.val, .val, .val] [] [(6, none), (7, none)] [(0, [0, 1, 2]), (1, [0, 1, 2]), (2, []), (3, [0, 1, 2]), (4, [0, 1, 2, 8]), (5, [0, 1, 2, 8, 9]), (6, [0, 1, 2, 8, 9]), (7, [0, 1, 2, 8, 9]), (8, [0, 1, 2, 8, 9]), (9, [0, 1, 2, 8, 9, 10]), (10, [0, 1, 2, 8, 9]), (11, [0, 1, 2, 8, 9, 10]), (12, [0, 2, 8, 9, 10]), (13, [0, 1, 2, 8, 9]), (14, [8]), (1000005, [8])]),
  (5, .code c5 [.val] [] [(2, none)] [(0, [0]), (1, [0]), (2, [0, 3]), (3, [0, 3, 4]), (4, [0, 3, 4]), (5, [0, 3, 4]), (6, [3]), (1000003, [3])]),
  (6, .code c6 [.val, .val, .val] [] [(6, none), (7, none)] [(0, [0, 1, 2]), (1, [0, 1, 2]), (2, []), (3, [0, 1, 2]), (4, [0, 1, 2, 8]), (5, [0, 1, 2, 8, 15, 16, 17]), (6, [0, 1, 2, 8, 15, 16, 17]), (7, [0, 1, 2, 8, 10, 15, 16, 17]), (8, [0, 1, 2, 8, 10, 15, 16, 17]), (9, [0, 1, 2, 8, 11, 15, 16, 17]), (10, [0, 2, 8, 11, 15, 16, 17]), (11, [0, 1, 2, 8, 11, 15, 16, 17]), (12, [0, 2, 8, 15, 16, 17]), (13, [0, 1, 2, 8, 15, 16, 17]), (14, [0, 1, 2, 8, 15, 16, 17]), (15, [8]), (1000005, [8])]),
  (7, .code c7 [.val, .val] [] [(4, none)] [(0, [0, 1]), (1, [0, 1]), (2, []), (3, [0, 1]), (4, [0, 1, 5]), (5, [0, 1, 5]), (6, [0, 1, 5]), (7, []), (8, []), (1000004, [4])]),
  (8, .code c8 [.io, .val] [0] [(4, none)] [(0, [0, 1]), (1, [0, 1]), (2, [0, 1, 5]), (3, [0, 1, 5]), (4, [0, 1, 5]), (5, [0, 1, 5]), (6, [0, 1]), (1000002, [0, 1])]),
  (9, .code c9 [.val, .val] [] [(4, none)] [(0, [0, 1]), (1, [0, 1]), (2, [0, 1, 5]), (3, [0, 1, 5]), (4, [0, 1, 5]), (5, []), (6, [0, 1, 5]), (7, [1]), (1000002, [1, 4])]),
  (10, .code c10 [.val] [] [(2, none)] [(0, [0]), (1, [0])]),
  (11, .code c11 [.val] [] [(2, none)] [(0, [0]), (1, [0]), (2, [0]), (3, [0])]),
  (12, .code c12 [.val] [] [(2, none)] [(0, [0]), (1, [0])]),
  (13, .code c13 [.val] [] [(2, none)] [(0, [0]), (1, [0])]),
  (14, .code c14 [.val, .val] [] [(4, none)] [(0, [0, 1]), (1, [0, 1]), (2, [0, 1]), (3, [0, 1]), (4, [0, 1]), (5, [0, 1])]),
  (15, .code c15 [.val] [] [(2, none)] [(0, [0]), (1, [0]), (2, []), (3, [0])]),
  (16, .ext (pAbs)),
  (17, .ext (pF32bits))]
noncomputable def E : Env := ⟨fun t => lookT tyTab t, lookF fnTab⟩
noncomputable def fdAt (n : Nat) : FD := match lookF fnTab n with
  | some d => d
  | none => .ext fun _ => none
noncomputable def keepAt (n : Nat) : List (Nat × List Nat) := match lookF fnTab n with
  | some d => d.keep
  | none => []
theorem tysOk : TysOk Try.prog E := tysOk_of (l := tyTab) (fun _ => rfl) (by kernel_rfl)
theorem ft3 : FnTab Try.prog E 3 (fdAt 3) := fnTab_code (c := c3) (modes := (fdAt 3).ms) (outs := (fdAt 3).os) (results := (fdAt 3).rs) (keep := (fdAt 3).keep) Try.func3 (by kernel_rfl) (by kernel_rfl) (by kernel_rfl)
theorem ft4 : FnTab Try.prog E 4 (fdAt 4) := fnTab_code (c := c4) (modes := (fdAt 4).ms) (outs := (fdAt 4).os) (results := (fdAt 4).rs) (keep := (fdAt 4).keep) Try.func4 (by kernel_rfl) (by kernel_rfl) (by kernel_rfl)
theorem ft5 : FnTab Try.prog E 5 (fdAt 5) := fnTab_code (c := c5) (modes := (fdAt 5).ms) (outs := (fdAt 5).os) (results := (fdAt 5).rs) (keep := (fdAt 5).keep) Try.func5 (by kernel_rfl) (by kernel_rfl) (by kernel_rfl)
theorem ft6 : FnTab Try.prog E 6 (fdAt 6) := fnTab_code (c := c6) (modes := (fdAt 6).ms) (outs := (fdAt 6).os) (results := (fdAt 6).rs) (keep := (fdAt 6).keep) Try.func6 (by kernel_rfl) (by kernel_rfl) (by kernel_rfl)
theorem ft7 : FnTab Try.prog E 7 (fdAt 7) := fnTab_code (c := c7) (modes := (fdAt 7).ms) (outs := (fdAt 7).os) (results := (fdAt 7).rs) (keep := (fdAt 7).keep) Try.func7 (by kernel_rfl) (by kernel_rfl) (by kernel_rfl)
theorem ft8 : FnTab Try.prog E 8 (fdAt 8) := fnTab_code (c := c8) (modes := (fdAt 8).ms) (outs := (fdAt 8).os) (results := (fdAt 8).rs) (keep := (fdAt 8).keep) Try.func8 (by kernel_rfl) (by kernel_rfl) (by kernel_rfl)
theorem ft9 : FnTab Try.prog E 9 (fdAt 9) := fnTab_code (c := c9) (modes := (fdAt 9).ms) (outs := (fdAt 9).os) (results := (fdAt 9).rs) (keep := (fdAt 9).keep) Try.func9 (by kernel_rfl) (by kernel_rfl) (by kernel_rfl)
theorem ft10 : FnTab Try.prog E 10 (fdAt 10) := fnTab_code (c := c10) (modes := (fdAt 10).ms) (outs := (fdAt 10).os) (results := (fdAt 10).rs) (keep := (fdAt 10).keep) Try.func10 (by kernel_rfl) (by kernel_rfl) (by kernel_rfl)
theorem ft11 : FnTab Try.prog E 11 (fdAt 11) := fnTab_code (c := c11) (modes := (fdAt 11).ms) (outs := (fdAt 11).os) (results := (fdAt 11).rs) (keep := (fdAt 11).keep) Try.func11 (by kernel_rfl) (by kernel_rfl) (by kernel_rfl)
theorem ft12 : FnTab Try.prog E 12 (fdAt 12) := fnTab_code (c := c12) (modes := (fdAt 12).ms) (outs := (fdAt 12).os) (results := (fdAt 12).rs) (keep := (fdAt 12).keep) Try.func12 (by kernel_rfl) (by kernel_rfl) (by kernel_rfl)
theorem ft13 : FnTab Try.prog E 13 (fdAt 13) := fnTab_code (c := c13) (modes := (fdAt 13).ms) (outs := (fdAt 13).os) (results := (fdAt 13).rs) (keep := (fdAt 13).keep) Try.func13 (by kernel_rfl) (by kernel_rfl) (by kernel_rfl)
theorem ft14 : FnTab Try.prog E 14 (fdAt 14) := fnTab_code (c := c14) (modes := (fdAt 14).ms) (outs := (fdAt 14).os) (results := (fdAt 14).rs) (keep := (fdAt 14).keep) Try.func14 (by kernel_rfl) (by kernel_rfl) (by kernel_rfl)
theorem ft15 : FnTab Try.prog E 15 (fdAt 15) := fnTab_code (c := c15) (modes := (fdAt 15).ms) (outs := (fdAt 15).os) (results := (fdAt 15).rs) (keep := (fdAt 15).keep) Try.func15 (by kernel_rfl) (by kernel_rfl) (by kernel_rfl)
theorem ft16 : FnTab Try.prog E 16 (.ext (pAbs)) := DA.absOk
theorem ft17 : FnTab Try.prog E 17 (.ext (pF32bits)) := ext_pF32bits Try.func17 (by kernel_rfl) (by kernel_rfl) (by kernel_rfl) (by kernel_rfl)
theorem allFns : AllFns Try.prog E fnTab := .cons ft3 (.cons ft4 (.cons ft5 (.cons ft6 (.cons ft7 (.cons ft8 (.cons ft9 (.cons ft10 (.cons ft11 (.cons ft12 (.cons ft13 (.cons ft14 (.cons ft15 (.cons ft16 (.cons ft17 (.nil)))))))))))))))
theorem fnOk : ∀ f fd, E.fn f = some fd → FnTab Try.prog E f fd := fnTab_of (l := fnTab) (fun _ => rfl) allFns
end Go.Proofs.Ytcadjmbpmbdliab.D
end
section
/- Plain functions for the law's Go functions, each tied to the reading by the kernel (printed by a program of this workplace). -/
namespace Go.Proofs.Ytcadjmbpmbdliab.D
open Go Go.Desk
set_option linter.unusedVariables false
noncomputable def x17.w : FnW E := xF32bits.w 17 (by kernel_rfl)

noncomputable def x16.w : FnW E := xAbs.w 16 (by kernel_rfl)

def f5_l_toFloat32S.l0 (n : Nat) : Nat → Nat → List T → Nat → List T → Int → Option (Nat × List T)
  | 0, _, _, _, _, _ => none
  | m + 1, n1, l2, n3, l4, i5 =>
    br (decide (i5 < ((n1 : Nat) : Int))) (
     gd ((decide (((0 : Int) ≤ i5) ∧ (i5 < ((n1 : Nat) : Int)))) && (okAt [(CK.flt FloatKind.f32)] l2 (Int.toNat i5))) (
     gd (decide (((0 : Int) ≤ i5) ∧ (i5 < ((n3 : Nat) : Int)))) (
     gd (Nat.ble ((Int.toNat i5) + 1) (List.length l4)) (
     let l6 : List T := (setN l4 (Int.toNat i5) [(T.flt FloatKind.f32 (fAt l2 (Int.toNat i5)))])
     f5_l_toFloat32S.l0 n m n1 l2 n3 l6 (IntKind.i64.wrap (i5 + (1 : Int))))))) (
     some (n3, l4))
def f5_l_toFloat32S : Nat → Nat → List T → Option (Nat × List T)
  | 0, _, _ => none
  | n + 1, n1, l2 =>
    gd (decide (((0 : Int) ≤ ((n1 : Nat) : Int)) ∧ (((n1 : Nat) : Int) ≤ (2147483648 : Int)))) (
    let l3 : List T := (reps n1 [(T.flt FloatKind.f32 0)])
    bd (f5_l_toFloat32S.l0 n n n1 l2 n1 l3 (0 : Int)) fun r4 =>
    let n5 : Nat := r4.1
    let l6 : List T := r4.2
    some (n5, l6))
def sg_l : Sig (Nat × List T) where
  pk := fun v => [.lst v.1 v.2]
  up := fun ls => match ls with
    | [.lst a0 a1] => some (a0, a1)
    | _ => none
  ok := by
    intro ls v h
    split at h
    · cases h; rfl
    · cases h

def sg_lli : Sig (Nat × List T × Nat × List T × Int) where
  pk := fun v => [.lst v.1 v.2.1, .lst v.2.2.1 v.2.2.2.1, .int v.2.2.2.2]
  up := fun ls => match ls with
    | [.lst a0 a1, .lst a2 a3, .int a4] => some (a0, a1, a2, a3, a4)
    | _ => none
  ok := by
    intro ls v h
    split at h
    · cases h; rfl
    · cases h

def f5_l_toFloat32S.l0.P : AS := ⟨[(0, .val false [.sl .shr [.leaf]] [.lst 0 []] [] 0), (3, .val false [.sl .own [.leaf]] [.lst 0 []] [] 0), (4, .val false [.leaf] [.int .i64 0] [] 0)], 0⟩
def f5_l_toFloat32S.l0.A : Alt (Nat × List T) := .one (.exit 0) ⟨[(3, .val false [.sl .own [.leaf]] [.lst 0 []] [] 0)], 0⟩ sg_l
def f5_l_toFloat32S.l0.F (n m : Nat) (v : Nat × List T × Nat × List T × Int) := f5_l_toFloat32S.l0 n m v.1 v.2.1 v.2.2.1 v.2.2.2.1 v.2.2.2.2
def f5_l_toFloat32S.l0.W (n : Nat) : LpW := .of 48 f5_l_toFloat32S.l0.P sg_lli f5_l_toFloat32S.l0.A (f5_l_toFloat32S.l0.F n n)
def f5_l_toFloat32S.P : List Arg := [⟨.val, ⟨false, [.sl .shr [.leaf]], [.lst 0 []]⟩⟩]
def f5_l_toFloat32S.A : RAlt (Nat × List T) := .one ⟨[⟨false, [.sl .own [.leaf]], [.lst 0 []]⟩], [none]⟩ sg_l
def f5_l_toFloat32S.F (n : Nat) (v : Nat × List T) := f5_l_toFloat32S n v.1 v.2
noncomputable def f5_l_toFloat32S.O (n : Nat) : Orc := orcOf (E := E) [] [f5_l_toFloat32S.l0.W n] n
theorem f5_l_toFloat32S.l0.ok (n : Nat) : LpOk (f5_l_toFloat32S.O n) E (evalFn E n) n (keepAt 5) (.loop (loopAt c5 0)) :=
  lp_pure f5_l_toFloat32S.l0.P sg_lli f5_l_toFloat32S.l0.A (f5_l_toFloat32S.l0.F n) (orcOf_cf _ _ n) (lpOk_of (bs := []) (by kernel_rfl) .nil) (fun _ => rfl) (fun _ _ => by kernel_rfl) (fun _ _ _ => by kernel_rfl)
theorem f5_l_toFloat32S.ok : ∀ n v x, f5_l_toFloat32S.F n v = some x → evalFn E n 5 (flAs f5_l_toFloat32S.P (sg_l.pk v)) = some (f5_l_toFloat32S.A.enc x) :=
  fn_pure (modes := (fdAt 5).ms) (outs := (fdAt 5).os) (results := (fdAt 5).rs) f5_l_toFloat32S.O (c := c5) (keep := keepAt 5) (by kernel_rfl) (fun n => orcOf_cf _ _ n) (fun n => lpOk_of (bs := [loopAt c5 0]) (by kernel_rfl) (.cons (f5_l_toFloat32S.l0.ok n) .nil)) (fun _ => rfl) (fun _ _ => by kernel_rfl)
noncomputable def f5_l_toFloat32S.w : FnW E := fnW 5 f5_l_toFloat32S.P sg_l f5_l_toFloat32S.A f5_l_toFloat32S.F f5_l_toFloat32S.ok

def f10_s_l01Few : Nat → Nat → List T → Option (Bool)
  | 0, _, _ => none
  | n + 1, n1, l2 =>
    some (decide (((n1 : Nat) : Int) ≤ (256 : Int)))
def sg_b : Sig (Bool) where
  pk := fun v => [.bool v]
  up := fun ls => match ls with
    | [.bool a0] => some a0
    | _ => none
  ok := by
    intro ls v h
    split at h
    · cases h; rfl
    · cases h

def f10_s_l01Few.P : List Arg := [⟨.val, ⟨false, [.sl .shr [.leaf]], [.lst 0 []]⟩⟩]
def f10_s_l01Few.A : RAlt (Bool) := .one ⟨[⟨false, [.leaf], [.bool false]⟩], [none]⟩ sg_b
def f10_s_l01Few.F (n : Nat) (v : Nat × List T) := f10_s_l01Few n v.1 v.2
noncomputable def f10_s_l01Few.O (n : Nat) : Orc := orcOf (E := E) [] [] n
theorem f10_s_l01Few.ok : ∀ n v x, f10_s_l01Few.F n v = some x → evalFn E n 10 (flAs f10_s_l01Few.P (sg_l.pk v)) = some (f10_s_l01Few.A.enc x) :=
  fn_pure (modes := (fdAt 10).ms) (outs := (fdAt 10).os) (results := (fdAt 10).rs) f10_s_l01Few.O (c := c10) (keep := keepAt 10) (by kernel_rfl) (fun n => orcOf_cf _ _ n) (fun n => lpOk_of (bs := []) (by kernel_rfl) .nil) (fun _ => rfl) (fun _ _ => by kernel_rfl)
noncomputable def f10_s_l01Few.w : FnW E := fnW 10 f10_s_l01Few.P sg_l f10_s_l01Few.A f10_s_l01Few.F f10_s_l01Few.ok

def f15_s_l01Bits : Nat → Nat → Option (Int)
  | 0, _ => none
  | n + 1, x1 =>
    br (fne FloatKind.f32 x1 x1) (
     some (2143289344 : Int)) (
     bd (xF32bits n x1) fun r2 =>
     let i3 : Int := r2
     some (IntKind.i64.wrap i3))
def sg_f : Sig (Nat) where
  pk := fun v => [.flt v]
  up := fun ls => match ls with
    | [.flt a0] => some a0
    | _ => none
  ok := by
    intro ls v h
    split at h
    · cases h; rfl
    · cases h

def sg_i : Sig (Int) where
  pk := fun v => [.int v]
  up := fun ls => match ls with
    | [.int a0] => some a0
    | _ => none
  ok := by
    intro ls v h
    split at h
    · cases h; rfl
    · cases h

def f15_s_l01Bits.P : List Arg := [⟨.val, ⟨false, [.leaf], [.flt .f32 0]⟩⟩]
def f15_s_l01Bits.A : RAlt (Int) := .one ⟨[⟨false, [.leaf], [.int .i64 0]⟩], [none]⟩ sg_i
def f15_s_l01Bits.F (n : Nat) (v : Nat) := f15_s_l01Bits n v
noncomputable def f15_s_l01Bits.O (n : Nat) : Orc := orcOf (E := E) [x17.w] [] n
theorem f15_s_l01Bits.ok : ∀ n v x, f15_s_l01Bits.F n v = some x → evalFn E n 15 (flAs f15_s_l01Bits.P (sg_f.pk v)) = some (f15_s_l01Bits.A.enc x) :=
  fn_pure (modes := (fdAt 15).ms) (outs := (fdAt 15).os) (results := (fdAt 15).rs) f15_s_l01Bits.O (c := c15) (keep := keepAt 15) (by kernel_rfl) (fun n => orcOf_cf _ _ n) (fun n => lpOk_of (bs := []) (by kernel_rfl) .nil) (fun _ => rfl) (fun _ _ => by kernel_rfl)
noncomputable def f15_s_l01Bits.w : FnW E := fnW 15 f15_s_l01Bits.P sg_f f15_s_l01Bits.A f15_s_l01Bits.F f15_s_l01Bits.ok

def f11_s_l04Size : Nat → Nat → Option (Nat)
  | 0, _ => none
  | n + 1, x1 =>
    br (flt FloatKind.f32 x1 0) (
     some (negF FloatKind.f32 x1)) (
     bd (f15_s_l01Bits n x1) fun r2 =>
     let i3 : Int := r2
     br (i3 == (2147483648 : Int)) (
      some (negF FloatKind.f32 x1)) (
      some x1))
def f11_s_l04Size.P : List Arg := [⟨.val, ⟨false, [.leaf], [.flt .f32 0]⟩⟩]
def f11_s_l04Size.A : RAlt (Nat) := .one ⟨[⟨false, [.leaf], [.flt .f32 0]⟩], [none]⟩ sg_f
def f11_s_l04Size.F (n : Nat) (v : Nat) := f11_s_l04Size n v
noncomputable def f11_s_l04Size.O (n : Nat) : Orc := orcOf (E := E) [f15_s_l01Bits.w] [] n
theorem f11_s_l04Size.ok : ∀ n v x, f11_s_l04Size.F n v = some x → evalFn E n 11 (flAs f11_s_l04Size.P (sg_f.pk v)) = some (f11_s_l04Size.A.enc x) :=
  fn_pure (modes := (fdAt 11).ms) (outs := (fdAt 11).os) (results := (fdAt 11).rs) f11_s_l04Size.O (c := c11) (keep := keepAt 11) (by kernel_rfl) (fun n => orcOf_cf _ _ n) (fun n => lpOk_of (bs := []) (by kernel_rfl) .nil) (fun _ => rfl) (fun _ _ => by kernel_rfl)
noncomputable def f11_s_l04Size.w : FnW E := fnW 11 f11_s_l04Size.P sg_f f11_s_l04Size.A f11_s_l04Size.F f11_s_l04Size.ok

def f4_s_HoldPeaks.l0 (n : Nat) : Nat → Nat → List T → Nat → Nat → Nat → List T → Int → Option (Nat × List T)
  | 0, _, _, _, _, _, _, _ => none
  | m + 1, n1, l2, x3, x4, n5, l6, i7 =>
    br (decide (i7 < ((n1 : Nat) : Int))) (
     let x8 : Nat := (fmul FloatKind.f32 x3 x4)
     gd ((decide (((0 : Int) ≤ i7) ∧ (i7 < ((n1 : Nat) : Int)))) && (okAt [(CK.flt FloatKind.f32)] l2 (Int.toNat i7))) (
     bd (f11_s_l04Size n (fAt l2 (Int.toNat i7))) fun r9 =>
     let x10 : Nat := r9
     br (fne FloatKind.f32 x10 x10) (
      br (fgt FloatKind.f32 0 x8) (
       gd (Nat.ble (n5 + 1) 2147483648) (
       let n11 : Nat := (n5 + 1)
       let l12 : List T := (l6 ++ (setN (reps 1 [(T.flt FloatKind.f32 0)]) 0 [(T.flt FloatKind.f32 0)]))
       f4_s_HoldPeaks.l0 n m n1 l2 0 x4 n11 l12 (IntKind.i64.wrap (i7 + (1 : Int))))) (
       gd (Nat.ble (n5 + 1) 2147483648) (
       let n13 : Nat := (n5 + 1)
       let l14 : List T := (l6 ++ (setN (reps 1 [(T.flt FloatKind.f32 0)]) 0 [(T.flt FloatKind.f32 x8)]))
       f4_s_HoldPeaks.l0 n m n1 l2 x8 x4 n13 l14 (IntKind.i64.wrap (i7 + (1 : Int)))))) (
      br (fgt FloatKind.f32 x10 x8) (
       gd (Nat.ble (n5 + 1) 2147483648) (
       let n15 : Nat := (n5 + 1)
       let l16 : List T := (l6 ++ (setN (reps 1 [(T.flt FloatKind.f32 0)]) 0 [(T.flt FloatKind.f32 x10)]))
       f4_s_HoldPeaks.l0 n m n1 l2 x10 x4 n15 l16 (IntKind.i64.wrap (i7 + (1 : Int))))) (
       gd (Nat.ble (n5 + 1) 2147483648) (
       let n17 : Nat := (n5 + 1)
       let l18 : List T := (l6 ++ (setN (reps 1 [(T.flt FloatKind.f32 0)]) 0 [(T.flt FloatKind.f32 x8)]))
       f4_s_HoldPeaks.l0 n m n1 l2 x8 x4 n17 l18 (IntKind.i64.wrap (i7 + (1 : Int)))))))) (
     some (n5, l6))
def f4_s_HoldPeaks : Nat → Nat → List T → Nat → Nat → Option (Nat × List T × Bool)
  | 0, _, _, _, _ => none
  | n + 1, n1, l2, x3, x4 =>
    bd (f10_s_l01Few n n1 l2) fun r5 =>
    let b6 : Bool := r5
    br (!b6) (
     some (0, [], false)) (
     bd (f4_s_HoldPeaks.l0 n n n1 l2 x3 x4 0 (reps 0 [(T.flt FloatKind.f32 0)]) (0 : Int)) fun r7 =>
     let n8 : Nat := r7.1
     let l9 : List T := r7.2
     some (n8, l9, true))
def sg_lff : Sig (Nat × List T × Nat × Nat) where
  pk := fun v => [.lst v.1 v.2.1, .flt v.2.2.1, .flt v.2.2.2]
  up := fun ls => match ls with
    | [.lst a0 a1, .flt a2, .flt a3] => some (a0, a1, a2, a3)
    | _ => none
  ok := by
    intro ls v h
    split at h
    · cases h; rfl
    · cases h

def sg_lb : Sig (Nat × List T × Bool) where
  pk := fun v => [.lst v.1 v.2.1, .bool v.2.2]
  up := fun ls => match ls with
    | [.lst a0 a1, .bool a2] => some (a0, a1, a2)
    | _ => none
  ok := by
    intro ls v h
    split at h
    · cases h; rfl
    · cases h

def sg_lffli : Sig (Nat × List T × Nat × Nat × Nat × List T × Int) where
  pk := fun v => [.lst v.1 v.2.1, .flt v.2.2.1, .flt v.2.2.2.1, .lst v.2.2.2.2.1 v.2.2.2.2.2.1, .int v.2.2.2.2.2.2]
  up := fun ls => match ls with
    | [.lst a0 a1, .flt a2, .flt a3, .lst a4 a5, .int a6] => some (a0, a1, a2, a3, a4, a5, a6)
    | _ => none
  ok := by
    intro ls v h
    split at h
    · cases h; rfl
    · cases h

def f4_s_HoldPeaks.l0.P : AS := ⟨[(0, .val false [.sl .shr [.leaf]] [.lst 0 []] [] 0), (1, .val false [.leaf] [.flt .f32 0] [] 0), (2, .val false [.leaf] [.flt .f32 0] [] 0), (8, .val false [.sl .own [.leaf]] [.lst 0 []] [] 0), (9, .val false [.leaf] [.int .i64 0] [] 0)], 0⟩
def f4_s_HoldPeaks.l0.A : Alt (Nat × List T) := .one (.exit 0) ⟨[(8, .val false [.sl .own [.leaf]] [.lst 0 []] [] 0)], 0⟩ sg_l
def f4_s_HoldPeaks.l0.F (n m : Nat) (v : Nat × List T × Nat × Nat × Nat × List T × Int) := f4_s_HoldPeaks.l0 n m v.1 v.2.1 v.2.2.1 v.2.2.2.1 v.2.2.2.2.1 v.2.2.2.2.2.1 v.2.2.2.2.2.2
def f4_s_HoldPeaks.l0.W (n : Nat) : LpW := .of 80 f4_s_HoldPeaks.l0.P sg_lffli f4_s_HoldPeaks.l0.A (f4_s_HoldPeaks.l0.F n n)
def f4_s_HoldPeaks.P : List Arg := [⟨.val, ⟨false, [.sl .shr [.leaf]], [.lst 0 []]⟩⟩, ⟨.val, ⟨false, [.leaf], [.flt .f32 0]⟩⟩, ⟨.val, ⟨false, [.leaf], [.flt .f32 0]⟩⟩]
def f4_s_HoldPeaks.A : RAlt (Nat × List T × Bool) := .one ⟨[⟨false, [.sl .own [.leaf]], [.lst 0 []]⟩, ⟨false, [.leaf], [.bool false]⟩], [none, none, none]⟩ sg_lb
def f4_s_HoldPeaks.F (n : Nat) (v : Nat × List T × Nat × Nat) := f4_s_HoldPeaks n v.1 v.2.1 v.2.2.1 v.2.2.2
noncomputable def f4_s_HoldPeaks.O (n : Nat) : Orc := orcOf (E := E) [f10_s_l01Few.w, f11_s_l04Size.w] [f4_s_HoldPeaks.l0.W n] n
theorem f4_s_HoldPeaks.l0.ok (n : Nat) : LpOk (f4_s_HoldPeaks.O n) E (evalFn E n) n (keepAt 4) (.loop (loopAt c4 0)) :=
  lp_pure f4_s_HoldPeaks.l0.P sg_lffli f4_s_HoldPeaks.l0.A (f4_s_HoldPeaks.l0.F n) (orcOf_cf _ _ n) (lpOk_of (bs := []) (by kernel_rfl) .nil) (fun _ => rfl) (fun _ _ => by kernel_rfl) (fun _ _ _ => by kernel_rfl)
theorem f4_s_HoldPeaks.ok : ∀ n v x, f4_s_HoldPeaks.F n v = some x → evalFn E n 4 (flAs f4_s_HoldPeaks.P (sg_lff.pk v)) = some (f4_s_HoldPeaks.A.enc x) :=
  fn_pure (modes := (fdAt 4).ms) (outs := (fdAt 4).os) (results := (fdAt 4).rs) f4_s_HoldPeaks.O (c := c4) (keep := keepAt 4) (by kernel_rfl) (fun n => orcOf_cf _ _ n) (fun n => lpOk_of (bs := [loopAt c4 0]) (by kernel_rfl) (.cons (f4_s_HoldPeaks.l0.ok n) .nil)) (fun _ => rfl) (fun _ _ => by kernel_rfl)
noncomputable def f4_s_HoldPeaks.w : FnW E := fnW 4 f4_s_HoldPeaks.P sg_lff f4_s_HoldPeaks.A f4_s_HoldPeaks.F f4_s_HoldPeaks.ok

def f12_i_areSamples : Nat → Nat → List T → Option (Bool)
  | 0, _, _ => none
  | n + 1, n1, l2 =>
    some (decide (((n1 : Nat) : Int) ≤ (256 : Int)))
def f12_i_areSamples.P : List Arg := [⟨.val, ⟨false, [.sl .shr [.leaf]], [.lst 0 []]⟩⟩]
def f12_i_areSamples.A : RAlt (Bool) := .one ⟨[⟨false, [.leaf], [.bool false]⟩], [none]⟩ sg_b
def f12_i_areSamples.F (n : Nat) (v : Nat × List T) := f12_i_areSamples n v.1 v.2
noncomputable def f12_i_areSamples.O (n : Nat) : Orc := orcOf (E := E) [] [] n
theorem f12_i_areSamples.ok : ∀ n v x, f12_i_areSamples.F n v = some x → evalFn E n 12 (flAs f12_i_areSamples.P (sg_l.pk v)) = some (f12_i_areSamples.A.enc x) :=
  fn_pure (modes := (fdAt 12).ms) (outs := (fdAt 12).os) (results := (fdAt 12).rs) f12_i_areSamples.O (c := c12) (keep := keepAt 12) (by kernel_rfl) (fun n => orcOf_cf _ _ n) (fun n => lpOk_of (bs := []) (by kernel_rfl) .nil) (fun _ => rfl) (fun _ _ => by kernel_rfl)
noncomputable def f12_i_areSamples.w : FnW E := fnW 12 f12_i_areSamples.P sg_l f12_i_areSamples.A f12_i_areSamples.F f12_i_areSamples.ok

def f13_i_absolute : Nat → Nat → Option (Nat)
  | 0, _ => none
  | n + 1, x1 =>
    bd ((fltToFlt FloatKind.f32 x1 FloatKind.f64)) fun y2 =>
    bd (xAbs n y2) fun r3 =>
    let x4 : Nat := r3
    bd ((fltToFlt FloatKind.f64 x4 FloatKind.f32)) fun y5 =>
    some y5
def f13_i_absolute.P : List Arg := [⟨.val, ⟨false, [.leaf], [.flt .f32 0]⟩⟩]
def f13_i_absolute.A : RAlt (Nat) := .one ⟨[⟨false, [.leaf], [.flt .f32 0]⟩], [none]⟩ sg_f
def f13_i_absolute.F (n : Nat) (v : Nat) := f13_i_absolute n v
noncomputable def f13_i_absolute.O (n : Nat) : Orc := orcOf (E := E) [x16.w] [] n
theorem f13_i_absolute.ok : ∀ n v x, f13_i_absolute.F n v = some x → evalFn E n 13 (flAs f13_i_absolute.P (sg_f.pk v)) = some (f13_i_absolute.A.enc x) :=
  fn_pure (modes := (fdAt 13).ms) (outs := (fdAt 13).os) (results := (fdAt 13).rs) f13_i_absolute.O (c := c13) (keep := keepAt 13) (by kernel_rfl) (fun n => orcOf_cf _ _ n) (fun n => lpOk_of (bs := []) (by kernel_rfl) .nil) (fun _ => rfl) (fun _ _ => by kernel_rfl)
noncomputable def f13_i_absolute.w : FnW E := fnW 13 f13_i_absolute.P sg_f f13_i_absolute.A f13_i_absolute.F f13_i_absolute.ok

def f6_i_HoldPeaks.l0 (n : Nat) : Nat → Nat → List T → Nat → Nat → Nat → List T → Nat → List T → Int → Int → Option (Nat × List T)
  | 0, _, _, _, _, _, _, _, _, _, _ => none
  | m + 1, n1, l2, x3, x4, n5, l6, n7, l8, i9, i10 =>
    br (decide (i10 < i9)) (
     gd ((decide (((0 : Int) ≤ i10) ∧ (i10 < ((n7 : Nat) : Int)))) && (okAt [(CK.flt FloatKind.f32)] l8 (Int.toNat i10))) (
     let x11 : Nat := (fAt l8 (Int.toNat i10))
     let x12 : Nat := (fmul FloatKind.f32 x3 x4)
     bd (f13_i_absolute n x11) fun r13 =>
     let x14 : Nat := r13
     br (fgt FloatKind.f32 x14 x12) (
      gd (Nat.ble (n5 + 1) 2147483648) (
      let n15 : Nat := (n5 + 1)
      let l16 : List T := (l6 ++ (setN (reps 1 [(T.flt FloatKind.f32 0)]) 0 [(T.flt FloatKind.f32 x14)]))
      f6_i_HoldPeaks.l0 n m n1 l2 x14 x4 n15 l16 n7 l8 i9 (IntKind.i64.wrap (i10 + (1 : Int))))) (
      br (fne FloatKind.f32 x14 x14) (
       br (flt FloatKind.f32 x12 0) (
        gd (Nat.ble (n5 + 1) 2147483648) (
        let n17 : Nat := (n5 + 1)
        let l18 : List T := (l6 ++ (setN (reps 1 [(T.flt FloatKind.f32 0)]) 0 [(T.flt FloatKind.f32 0)]))
        f6_i_HoldPeaks.l0 n m n1 l2 0 x4 n17 l18 n7 l8 i9 (IntKind.i64.wrap (i10 + (1 : Int))))) (
        gd (Nat.ble (n5 + 1) 2147483648) (
        let n19 : Nat := (n5 + 1)
        let l20 : List T := (l6 ++ (setN (reps 1 [(T.flt FloatKind.f32 0)]) 0 [(T.flt FloatKind.f32 x12)]))
        f6_i_HoldPeaks.l0 n m n1 l2 x12 x4 n19 l20 n7 l8 i9 (IntKind.i64.wrap (i10 + (1 : Int)))))) (
       gd (Nat.ble (n5 + 1) 2147483648) (
       let n21 : Nat := (n5 + 1)
       let l22 : List T := (l6 ++ (setN (reps 1 [(T.flt FloatKind.f32 0)]) 0 [(T.flt FloatKind.f32 x12)]))
       f6_i_HoldPeaks.l0 n m n1 l2 x12 x4 n21 l22 n7 l8 i9 (IntKind.i64.wrap (i10 + (1 : Int)))))))) (
     some (n5, l6))
def f6_i_HoldPeaks : Nat → Nat → List T → Nat → Nat → Option (Nat × List T × Bool)
  | 0, _, _, _, _ => none
  | n + 1, n1, l2, x3, x4 =>
    bd (f12_i_areSamples n n1 l2) fun r5 =>
    let b6 : Bool := r5
    br (!b6) (
     some (0, [], false)) (
     bd (f6_i_HoldPeaks.l0 n n n1 l2 x3 x4 0 [] n1 l2 ((n1 : Nat) : Int) (0 : Int)) fun r7 =>
     let n8 : Nat := r7.1
     let l9 : List T := r7.2
     some (n8, l9, true))
def sg_lffllii : Sig (Nat × List T × Nat × Nat × Nat × List T × Nat × List T × Int × Int) where
  pk := fun v => [.lst v.1 v.2.1, .flt v.2.2.1, .flt v.2.2.2.1, .lst v.2.2.2.2.1 v.2.2.2.2.2.1, .lst v.2.2.2.2.2.2.1 v.2.2.2.2.2.2.2.1, .int v.2.2.2.2.2.2.2.2.1, .int v.2.2.2.2.2.2.2.2.2]
  up := fun ls => match ls with
    | [.lst a0 a1, .flt a2, .flt a3, .lst a4 a5, .lst a6 a7, .int a8, .int a9] => some (a0, a1, a2, a3, a4, a5, a6, a7, a8, a9)
    | _ => none
  ok := by
    intro ls v h
    split at h
    · cases h; rfl
    · cases h

def f6_i_HoldPeaks.l0.P : AS := ⟨[(0, .val false [.sl .shr [.leaf]] [.lst 0 []] [] 0), (1, .val false [.leaf] [.flt .f32 0] [] 0), (2, .val false [.leaf] [.flt .f32 0] [] 0), (8, .val false [.sl .own [.leaf]] [.lst 0 []] [] 0), (15, .val false [.sl .shr [.leaf]] [.lst 0 []] [] 0), (16, .val false [.leaf] [.int .i64 0] [] 0), (17, .val false [.leaf] [.int .i64 0] [] 0)], 0⟩
def f6_i_HoldPeaks.l0.A : Alt (Nat × List T) := .one (.exit 0) ⟨[(8, .val false [.sl .own [.leaf]] [.lst 0 []] [] 0)], 0⟩ sg_l
def f6_i_HoldPeaks.l0.F (n m : Nat) (v : Nat × List T × Nat × Nat × Nat × List T × Nat × List T × Int × Int) := f6_i_HoldPeaks.l0 n m v.1 v.2.1 v.2.2.1 v.2.2.2.1 v.2.2.2.2.1 v.2.2.2.2.2.1 v.2.2.2.2.2.2.1 v.2.2.2.2.2.2.2.1 v.2.2.2.2.2.2.2.2.1 v.2.2.2.2.2.2.2.2.2
def f6_i_HoldPeaks.l0.W (n : Nat) : LpW := .of 80 f6_i_HoldPeaks.l0.P sg_lffllii f6_i_HoldPeaks.l0.A (f6_i_HoldPeaks.l0.F n n)
def f6_i_HoldPeaks.P : List Arg := [⟨.val, ⟨false, [.sl .shr [.leaf]], [.lst 0 []]⟩⟩, ⟨.val, ⟨false, [.leaf], [.flt .f32 0]⟩⟩, ⟨.val, ⟨false, [.leaf], [.flt .f32 0]⟩⟩]
def f6_i_HoldPeaks.A : RAlt (Nat × List T × Bool) := .one ⟨[⟨false, [.sl .own [.leaf]], [.lst 0 []]⟩, ⟨false, [.leaf], [.bool false]⟩], [none, none, none]⟩ sg_lb
def f6_i_HoldPeaks.F (n : Nat) (v : Nat × List T × Nat × Nat) := f6_i_HoldPeaks n v.1 v.2.1 v.2.2.1 v.2.2.2
noncomputable def f6_i_HoldPeaks.O (n : Nat) : Orc := orcOf (E := E) [f12_i_areSamples.w, f13_i_absolute.w] [f6_i_HoldPeaks.l0.W n] n
theorem f6_i_HoldPeaks.l0.ok (n : Nat) : LpOk (f6_i_HoldPeaks.O n) E (evalFn E n) n (keepAt 6) (.loop (loopAt c6 0)) :=
  lp_pure f6_i_HoldPeaks.l0.P sg_lffllii f6_i_HoldPeaks.l0.A (f6_i_HoldPeaks.l0.F n) (orcOf_cf _ _ n) (lpOk_of (bs := []) (by kernel_rfl) .nil) (fun _ => rfl) (fun _ _ => by kernel_rfl) (fun _ _ _ => by kernel_rfl)
theorem f6_i_HoldPeaks.ok : ∀ n v x, f6_i_HoldPeaks.F n v = some x → evalFn E n 6 (flAs f6_i_HoldPeaks.P (sg_lff.pk v)) = some (f6_i_HoldPeaks.A.enc x) :=
  fn_pure (modes := (fdAt 6).ms) (outs := (fdAt 6).os) (results := (fdAt 6).rs) f6_i_HoldPeaks.O (c := c6) (keep := keepAt 6) (by kernel_rfl) (fun n => orcOf_cf _ _ n) (fun n => lpOk_of (bs := [loopAt c6 0]) (by kernel_rfl) (.cons (f6_i_HoldPeaks.l0.ok n) .nil)) (fun _ => rfl) (fun _ _ => by kernel_rfl)
noncomputable def f6_i_HoldPeaks.w : FnW E := fnW 6 f6_i_HoldPeaks.P sg_lff f6_i_HoldPeaks.A f6_i_HoldPeaks.F f6_i_HoldPeaks.ok

def f14_l_sameFloat : Nat → Nat → Nat → Option (Bool)
  | 0, _, _ => none
  | n + 1, x1, x2 =>
    br (fne FloatKind.f64 x1 x1) (
     br (fne FloatKind.f64 x1 x1) (
      some (fne FloatKind.f64 x2 x2)) (
      some false)) (
     br (fne FloatKind.f64 x2 x2) (
      br (fne FloatKind.f64 x1 x1) (
       some (fne FloatKind.f64 x2 x2)) (
       some false)) (
      br (feq FloatKind.f64 x1 0) (
       br (feq FloatKind.f64 x2 0) (
        some ((fgt FloatKind.f64 (fdiv FloatKind.f64 4607182418800017408 x1) 0) == (fgt FloatKind.f64 (fdiv FloatKind.f64 4607182418800017408 x2) 0))) (
        some (feq FloatKind.f64 x1 x2))) (
       some (feq FloatKind.f64 x1 x2))))
def sg_ff : Sig (Nat × Nat) where
  pk := fun v => [.flt v.1, .flt v.2]
  up := fun ls => match ls with
    | [.flt a0, .flt a1] => some (a0, a1)
    | _ => none
  ok := by
    intro ls v h
    split at h
    · cases h; rfl
    · cases h

def f14_l_sameFloat.P : List Arg := [⟨.val, ⟨false, [.leaf], [.flt .f64 0]⟩⟩, ⟨.val, ⟨false, [.leaf], [.flt .f64 0]⟩⟩]
def f14_l_sameFloat.A : RAlt (Bool) := .one ⟨[⟨false, [.leaf], [.bool false]⟩], [none, none]⟩ sg_b
def f14_l_sameFloat.F (n : Nat) (v : Nat × Nat) := f14_l_sameFloat n v.1 v.2
noncomputable def f14_l_sameFloat.O (n : Nat) : Orc := orcOf (E := E) [] [] n
theorem f14_l_sameFloat.ok : ∀ n v x, f14_l_sameFloat.F n v = some x → evalFn E n 14 (flAs f14_l_sameFloat.P (sg_ff.pk v)) = some (f14_l_sameFloat.A.enc x) :=
  fn_pure (modes := (fdAt 14).ms) (outs := (fdAt 14).os) (results := (fdAt 14).rs) f14_l_sameFloat.O (c := c14) (keep := keepAt 14) (by kernel_rfl) (fun n => orcOf_cf _ _ n) (fun n => lpOk_of (bs := []) (by kernel_rfl) .nil) (fun _ => rfl) (fun _ _ => by kernel_rfl)
noncomputable def f14_l_sameFloat.w : FnW E := fnW 14 f14_l_sameFloat.P sg_ff f14_l_sameFloat.A f14_l_sameFloat.F f14_l_sameFloat.ok

def f7_l_eqFloat32S.l0 (n : Nat) : Nat → Nat → List T → Nat → List T → Int → Option ((Bool) ⊕ (Unit))
  | 0, _, _, _, _, _ => none
  | m + 1, n1, l2, n3, l4, i5 =>
    br (decide (i5 < ((n1 : Nat) : Int))) (
     gd ((decide (((0 : Int) ≤ i5) ∧ (i5 < ((n1 : Nat) : Int)))) && (okAt [(CK.flt FloatKind.f32)] l2 (Int.toNat i5))) (
     bd ((fltToFlt FloatKind.f32 (fAt l2 (Int.toNat i5)) FloatKind.f64)) fun y6 =>
     gd ((decide (((0 : Int) ≤ i5) ∧ (i5 < ((n3 : Nat) : Int)))) && (okAt [(CK.flt FloatKind.f32)] l4 (Int.toNat i5))) (
     bd ((fltToFlt FloatKind.f32 (fAt l4 (Int.toNat i5)) FloatKind.f64)) fun y7 =>
     bd (f14_l_sameFloat n y6 y7) fun r8 =>
     let b9 : Bool := r8
     br (!b9) (
      some (Sum.inl false)) (
      f7_l_eqFloat32S.l0 n m n1 l2 n3 l4 (IntKind.i64.wrap (i5 + (1 : Int))))))) (
     some (Sum.inr ()))
def f7_l_eqFloat32S : Nat → Nat → List T → Nat → List T → Option (Bool)
  | 0, _, _, _, _ => none
  | n + 1, n1, l2, n3, l4 =>
    br (((n1 : Nat) : Int) != ((n3 : Nat) : Int)) (
     some false) (
     bd (f7_l_eqFloat32S.l0 n n n1 l2 n3 l4 (0 : Int)) fun r5 =>
     sm r5 (fun u6 =>
      let b7 : Bool := u6
      some b7) (fun u8 =>
      some true))
def sg_ll : Sig (Nat × List T × Nat × List T) where
  pk := fun v => [.lst v.1 v.2.1, .lst v.2.2.1 v.2.2.2]
  up := fun ls => match ls with
    | [.lst a0 a1, .lst a2 a3] => some (a0, a1, a2, a3)
    | _ => none
  ok := by
    intro ls v h
    split at h
    · cases h; rfl
    · cases h

def sg : Sig (Unit) where
  pk := fun v => []
  up := fun ls => match ls with
    | [] => some ()
    | _ => none
  ok := by
    intro ls v h
    split at h
    · cases h; rfl
    · cases h

def f7_l_eqFloat32S.l0.P : AS := ⟨[(0, .val false [.sl .shr [.leaf]] [.lst 0 []] [] 0), (1, .val false [.sl .shr [.leaf]] [.lst 0 []] [] 0), (5, .val false [.leaf] [.int .i64 0] [] 0)], 0⟩
def f7_l_eqFloat32S.l0.A : Alt ((Bool) ⊕ (Unit)) := .or (.one .ret ⟨[(4, .val false [.leaf] [.bool false] [] 0)], 0⟩ sg_b) (.one (.exit 0) ⟨[(4, .dead)], 0⟩ sg)
def f7_l_eqFloat32S.l0.F (n m : Nat) (v : Nat × List T × Nat × List T × Int) := f7_l_eqFloat32S.l0 n m v.1 v.2.1 v.2.2.1 v.2.2.2.1 v.2.2.2.2
def f7_l_eqFloat32S.l0.W (n : Nat) : LpW := .of 64 f7_l_eqFloat32S.l0.P sg_lli f7_l_eqFloat32S.l0.A (f7_l_eqFloat32S.l0.F n n)
def f7_l_eqFloat32S.P : List Arg := [⟨.val, ⟨false, [.sl .shr [.leaf]], [.lst 0 []]⟩⟩, ⟨.val, ⟨false, [.sl .shr [.leaf]], [.lst 0 []]⟩⟩]
def f7_l_eqFloat32S.A : RAlt (Bool) := .one ⟨[⟨false, [.leaf], [.bool false]⟩], [none, none]⟩ sg_b
def f7_l_eqFloat32S.F (n : Nat) (v : Nat × List T × Nat × List T) := f7_l_eqFloat32S n v.1 v.2.1 v.2.2.1 v.2.2.2
noncomputable def f7_l_eqFloat32S.O (n : Nat) : Orc := orcOf (E := E) [f14_l_sameFloat.w] [f7_l_eqFloat32S.l0.W n] n
theorem f7_l_eqFloat32S.l0.ok (n : Nat) : LpOk (f7_l_eqFloat32S.O n) E (evalFn E n) n (keepAt 7) (.loop (loopAt c7 0)) :=
  lp_pure f7_l_eqFloat32S.l0.P sg_lli f7_l_eqFloat32S.l0.A (f7_l_eqFloat32S.l0.F n) (orcOf_cf _ _ n) (lpOk_of (bs := []) (by kernel_rfl) .nil) (fun _ => rfl) (fun _ _ => by kernel_rfl) (fun _ _ _ => by kernel_rfl)
theorem f7_l_eqFloat32S.ok : ∀ n v x, f7_l_eqFloat32S.F n v = some x → evalFn E n 7 (flAs f7_l_eqFloat32S.P (sg_ll.pk v)) = some (f7_l_eqFloat32S.A.enc x) :=
  fn_pure (modes := (fdAt 7).ms) (outs := (fdAt 7).os) (results := (fdAt 7).rs) f7_l_eqFloat32S.O (c := c7) (keep := keepAt 7) (by kernel_rfl) (fun n => orcOf_cf _ _ n) (fun n => lpOk_of (bs := [loopAt c7 0]) (by kernel_rfl) (.cons (f7_l_eqFloat32S.l0.ok n) .nil)) (fun _ => rfl) (fun _ _ => by kernel_rfl)
noncomputable def f7_l_eqFloat32S.w : FnW E := fnW 7 f7_l_eqFloat32S.P sg_ll f7_l_eqFloat32S.A f7_l_eqFloat32S.F f7_l_eqFloat32S.ok

def f8_l_markFloat32S.l0 (n : Nat) : Nat → Nat → List T → Int → Int → Option (Nat × List T × Int)
  | 0, _, _, _, _ => none
  | m + 1, n1, l2, i3, i4 =>
    br (decide (i4 < ((n1 : Nat) : Int))) (
     gd (decide (((0 : Int) ≤ i4) ∧ (i4 < ((n1 : Nat) : Int)))) (
     gd (Nat.ble ((Int.toNat i4) + 1) (List.length l2)) (
     let l5 : List T := (setN l2 (Int.toNat i4) [(T.flt FloatKind.f32 (FloatKind.nearest FloatKind.f32 i3))])
     let i6 : Int := (IntKind.i64.wrap (i3 + (1 : Int)))
     f8_l_markFloat32S.l0 n m n1 l5 i6 (IntKind.i64.wrap (i4 + (1 : Int)))))) (
     some (n1, l2, i3))
def f8_l_markFloat32S : Nat → Nat → List T → Int → Option (Int × Nat × List T)
  | 0, _, _, _ => none
  | n + 1, n1, l2, i3 =>
    bd (f8_l_markFloat32S.l0 n n n1 l2 i3 (0 : Int)) fun r4 =>
    let n5 : Nat := r4.1
    let l6 : List T := r4.2.1
    let i7 : Int := r4.2.2
    some (i7, n5, l6)
def sg_li : Sig (Nat × List T × Int) where
  pk := fun v => [.lst v.1 v.2.1, .int v.2.2]
  up := fun ls => match ls with
    | [.lst a0 a1, .int a2] => some (a0, a1, a2)
    | _ => none
  ok := by
    intro ls v h
    split at h
    · cases h; rfl
    · cases h

def sg_il : Sig (Int × Nat × List T) where
  pk := fun v => [.int v.1, .lst v.2.1 v.2.2]
  up := fun ls => match ls with
    | [.int a0, .lst a1 a2] => some (a0, a1, a2)
    | _ => none
  ok := by
    intro ls v h
    split at h
    · cases h; rfl
    · cases h

def sg_lii : Sig (Nat × List T × Int × Int) where
  pk := fun v => [.lst v.1 v.2.1, .int v.2.2.1, .int v.2.2.2]
  up := fun ls => match ls with
    | [.lst a0 a1, .int a2, .int a3] => some (a0, a1, a2, a3)
    | _ => none
  ok := by
    intro ls v h
    split at h
    · cases h; rfl
    · cases h

def f8_l_markFloat32S.l0.P : AS := ⟨[(0, .val false [.sl .own [.leaf]] [.lst 0 []] [] 1), (1, .val false [.leaf] [.int .i64 0] [] 0), (5, .val false [.leaf] [.int .i64 0] [] 0)], 0⟩
def f8_l_markFloat32S.l0.A : Alt (Nat × List T × Int) := .one (.exit 0) ⟨[(0, .val false [.sl .own [.leaf]] [.lst 0 []] [] 1), (1, .val false [.leaf] [.int .i64 0] [] 0)], 0⟩ sg_li
def f8_l_markFloat32S.l0.F (n m : Nat) (v : Nat × List T × Int × Int) := f8_l_markFloat32S.l0 n m v.1 v.2.1 v.2.2.1 v.2.2.2
def f8_l_markFloat32S.l0.W (n : Nat) : LpW := .of 32 f8_l_markFloat32S.l0.P sg_lii f8_l_markFloat32S.l0.A (f8_l_markFloat32S.l0.F n n)
def f8_l_markFloat32S.P : List Arg := [⟨.io, ⟨false, [.sl .own [.leaf]], [.lst 0 []]⟩⟩, ⟨.val, ⟨false, [.leaf], [.int .i64 0]⟩⟩]
def f8_l_markFloat32S.A : RAlt (Int × Nat × List T) := .one ⟨[⟨false, [.leaf], [.int .i64 0]⟩], [some ⟨false, [.sl .own [.leaf]], [.lst 0 []]⟩, none]⟩ sg_il
def f8_l_markFloat32S.F (n : Nat) (v : Nat × List T × Int) := f8_l_markFloat32S n v.1 v.2.1 v.2.2
noncomputable def f8_l_markFloat32S.O (n : Nat) : Orc := orcOf (E := E) [] [f8_l_markFloat32S.l0.W n] n
theorem f8_l_markFloat32S.l0.ok (n : Nat) : LpOk (f8_l_markFloat32S.O n) E (evalFn E n) n (keepAt 8) (.loop (loopAt c8 0)) :=
  lp_pure f8_l_markFloat32S.l0.P sg_lii f8_l_markFloat32S.l0.A (f8_l_markFloat32S.l0.F n) (orcOf_cf _ _ n) (lpOk_of (bs := []) (by kernel_rfl) .nil) (fun _ => rfl) (fun _ _ => by kernel_rfl) (fun _ _ _ => by kernel_rfl)
theorem f8_l_markFloat32S.ok : ∀ n v x, f8_l_markFloat32S.F n v = some x → evalFn E n 8 (flAs f8_l_markFloat32S.P (sg_li.pk v)) = some (f8_l_markFloat32S.A.enc x) :=
  fn_pure (modes := (fdAt 8).ms) (outs := (fdAt 8).os) (results := (fdAt 8).rs) f8_l_markFloat32S.O (c := c8) (keep := keepAt 8) (by kernel_rfl) (fun n => orcOf_cf _ _ n) (fun n => lpOk_of (bs := [loopAt c8 0]) (by kernel_rfl) (.cons (f8_l_markFloat32S.l0.ok n) .nil)) (fun _ => rfl) (fun _ _ => by kernel_rfl)
noncomputable def f8_l_markFloat32S.w : FnW E := fnW 8 f8_l_markFloat32S.P sg_li f8_l_markFloat32S.A f8_l_markFloat32S.F f8_l_markFloat32S.ok

def f9_l_heldFloat32S.l0 (n : Nat) : Nat → Nat → List T → Int → Int → Option ((Int) ⊕ (Int))
  | 0, _, _, _, _ => none
  | m + 1, n1, l2, i3, i4 =>
    br (decide (i4 < ((n1 : Nat) : Int))) (
     gd ((decide (((0 : Int) ≤ i4) ∧ (i4 < ((n1 : Nat) : Int)))) && (okAt [(CK.flt FloatKind.f32)] l2 (Int.toNat i4))) (
     br (fne FloatKind.f32 (fAt l2 (Int.toNat i4)) (FloatKind.nearest FloatKind.f32 i3)) (
      some (Sum.inl (-1 : Int))) (
      let i5 : Int := (IntKind.i64.wrap (i3 + (1 : Int)))
      f9_l_heldFloat32S.l0 n m n1 l2 i5 (IntKind.i64.wrap (i4 + (1 : Int)))))) (
     some (Sum.inr i3))
def f9_l_heldFloat32S : Nat → Nat → List T → Int → Option (Int)
  | 0, _, _, _ => none
  | n + 1, n1, l2, i3 =>
    bd (f9_l_heldFloat32S.l0 n n n1 l2 i3 (0 : Int)) fun r4 =>
    sm r4 (fun u5 =>
     let i6 : Int := u5
     some i6) (fun u7 =>
     let i8 : Int := u7
     some i8)
def f9_l_heldFloat32S.l0.P : AS := ⟨[(0, .val false [.sl .shr [.leaf]] [.lst 0 []] [] 0), (1, .val false [.leaf] [.int .i64 0] [] 0), (5, .val false [.leaf] [.int .i64 0] [] 0)], 0⟩
def f9_l_heldFloat32S.l0.A : Alt ((Int) ⊕ (Int)) := .or (.one .ret ⟨[(1, .dead), (4, .val false [.leaf] [.int .i64 0] [] 0)], 0⟩ sg_i) (.one (.exit 0) ⟨[(1, .val false [.leaf] [.int .i64 0] [] 0), (4, .dead)], 0⟩ sg_i)
def f9_l_heldFloat32S.l0.F (n m : Nat) (v : Nat × List T × Int × Int) := f9_l_heldFloat32S.l0 n m v.1 v.2.1 v.2.2.1 v.2.2.2
def f9_l_heldFloat32S.l0.W (n : Nat) : LpW := .of 32 f9_l_heldFloat32S.l0.P sg_lii f9_l_heldFloat32S.l0.A (f9_l_heldFloat32S.l0.F n n)
def f9_l_heldFloat32S.P : List Arg := [⟨.val, ⟨false, [.sl .shr [.leaf]], [.lst 0 []]⟩⟩, ⟨.val, ⟨false, [.leaf], [.int .i64 0]⟩⟩]
def f9_l_heldFloat32S.A : RAlt (Int) := .one ⟨[⟨false, [.leaf], [.int .i64 0]⟩], [none, none]⟩ sg_i
def f9_l_heldFloat32S.F (n : Nat) (v : Nat × List T × Int) := f9_l_heldFloat32S n v.1 v.2.1 v.2.2
noncomputable def f9_l_heldFloat32S.O (n : Nat) : Orc := orcOf (E := E) [] [f9_l_heldFloat32S.l0.W n] n
theorem f9_l_heldFloat32S.l0.ok (n : Nat) : LpOk (f9_l_heldFloat32S.O n) E (evalFn E n) n (keepAt 9) (.loop (loopAt c9 0)) :=
  lp_pure f9_l_heldFloat32S.l0.P sg_lii f9_l_heldFloat32S.l0.A (f9_l_heldFloat32S.l0.F n) (orcOf_cf _ _ n) (lpOk_of (bs := []) (by kernel_rfl) .nil) (fun _ => rfl) (fun _ _ => by kernel_rfl) (fun _ _ _ => by kernel_rfl)
theorem f9_l_heldFloat32S.ok : ∀ n v x, f9_l_heldFloat32S.F n v = some x → evalFn E n 9 (flAs f9_l_heldFloat32S.P (sg_li.pk v)) = some (f9_l_heldFloat32S.A.enc x) :=
  fn_pure (modes := (fdAt 9).ms) (outs := (fdAt 9).os) (results := (fdAt 9).rs) f9_l_heldFloat32S.O (c := c9) (keep := keepAt 9) (by kernel_rfl) (fun n => orcOf_cf _ _ n) (fun n => lpOk_of (bs := [loopAt c9 0]) (by kernel_rfl) (.cons (f9_l_heldFloat32S.l0.ok n) .nil)) (fun _ => rfl) (fun _ _ => by kernel_rfl)
noncomputable def f9_l_heldFloat32S.w : FnW E := fnW 9 f9_l_heldFloat32S.P sg_li f9_l_heldFloat32S.A f9_l_heldFloat32S.F f9_l_heldFloat32S.ok

def f3_l_FnExactHoldPeaks : Nat → Nat → List T → Nat → Nat → Option (Bool)
  | 0, _, _, _, _ => none
  | n + 1, n1, l2, x3, x4 =>
    br (decide (((n1 : Nat) : Int) > (1048576 : Int))) (
     some true) (
     bd (f5_l_toFloat32S n n1 l2) fun r5 =>
     let n6 : Nat := r5.1
     let l7 : List T := r5.2
     bd (f4_s_HoldPeaks n n6 l7 x3 x4) fun r8 =>
     let n9 : Nat := r8.1
     let l10 : List T := r8.2.1
     let b11 : Bool := r8.2.2
     bd (f5_l_toFloat32S n n1 l2) fun r12 =>
     let n13 : Nat := r12.1
     let l14 : List T := r12.2
     bd (f6_i_HoldPeaks n n13 l14 x3 x4) fun r15 =>
     let n16 : Nat := r15.1
     let l17 : List T := r15.2.1
     let b18 : Bool := r15.2.2
     bd (f7_l_eqFloat32S n n16 l17 n9 l10) fun r19 =>
     let b20 : Bool := r19
     br (!b20) (
      some false) (
      br (!(b18 == b11)) (
       some false) (
       bd (f5_l_toFloat32S n n1 l2) fun r21 =>
       let n22 : Nat := r21.1
       let l23 : List T := r21.2
       bd (f7_l_eqFloat32S n n13 l14 n22 l23) fun r24 =>
       let b25 : Bool := r24
       br (!b25) (
        some false) (
        bd (f8_l_markFloat32S n n13 l14 (1 : Int)) fun r26 =>
        let i27 : Int := r26.1
        let n28 : Nat := r26.2.1
        let l29 : List T := r26.2.2
        br (decide (i27 < (0 : Int))) (
         some false) (
         bd (f7_l_eqFloat32S n n16 l17 n9 l10) fun r30 =>
         let b31 : Bool := r30
         br (!b31) (
          some false) (
          br (!(b18 == b11)) (
           some false) (
           bd (f8_l_markFloat32S n n16 l17 (1 : Int)) fun r32 =>
           let i33 : Int := r32.1
           let n34 : Nat := r32.2.1
           let l35 : List T := r32.2.2
           bd (f9_l_heldFloat32S n n34 l35 (1 : Int)) fun r36 =>
           let i37 : Int := r36
           br (decide (i37 < (0 : Int))) (
            some false) (
            br (i37 != i33) (
             some false) (
             bd (f5_l_toFloat32S n n1 l2) fun r38 =>
             let n39 : Nat := r38.1
             let l40 : List T := r38.2
             bd (f6_i_HoldPeaks n n39 l40 x3 x4) fun r41 =>
             let n42 : Nat := r41.1
             let l43 : List T := r41.2.1
             let b44 : Bool := r41.2.2
             bd (f7_l_eqFloat32S n n42 l43 n9 l10) fun r45 =>
             let b46 : Bool := r45
             br (!b46) (
              some false) (
              br (!(b44 == b11)) (
               some false) (
               bd (f9_l_heldFloat32S n n34 l35 (1 : Int)) fun r47 =>
               let i48 : Int := r47
               br (decide (i48 < (0 : Int))) (
                some false) (
                br (i48 != i33) (
                 some false) (
                 some true)))))))))))))
def f3_l_FnExactHoldPeaks.P : List Arg := [⟨.val, ⟨false, [.sl .shr [.leaf]], [.lst 0 []]⟩⟩, ⟨.val, ⟨false, [.leaf], [.flt .f32 0]⟩⟩, ⟨.val, ⟨false, [.leaf], [.flt .f32 0]⟩⟩]
def f3_l_FnExactHoldPeaks.A : RAlt (Bool) := .one ⟨[⟨false, [.leaf], [.bool false]⟩], [none, none, none]⟩ sg_b
def f3_l_FnExactHoldPeaks.F (n : Nat) (v : Nat × List T × Nat × Nat) := f3_l_FnExactHoldPeaks n v.1 v.2.1 v.2.2.1 v.2.2.2
noncomputable def f3_l_FnExactHoldPeaks.O (n : Nat) : Orc := orcOf (E := E) [f5_l_toFloat32S.w, f4_s_HoldPeaks.w, f6_i_HoldPeaks.w, f7_l_eqFloat32S.w, f8_l_markFloat32S.w, f9_l_heldFloat32S.w] [] n
theorem f3_l_FnExactHoldPeaks.ok : ∀ n v x, f3_l_FnExactHoldPeaks.F n v = some x → evalFn E n 3 (flAs f3_l_FnExactHoldPeaks.P (sg_lff.pk v)) = some (f3_l_FnExactHoldPeaks.A.enc x) :=
  fn_pure (modes := (fdAt 3).ms) (outs := (fdAt 3).os) (results := (fdAt 3).rs) f3_l_FnExactHoldPeaks.O (c := c3) (keep := keepAt 3) (by kernel_rfl) (fun n => orcOf_cf _ _ n) (fun n => lpOk_of (bs := []) (by kernel_rfl) .nil) (fun _ => rfl) (fun _ _ => by kernel_rfl)
noncomputable def f3_l_FnExactHoldPeaks.w : FnW E := fnW 3 f3_l_FnExactHoldPeaks.P sg_lff f3_l_FnExactHoldPeaks.A f3_l_FnExactHoldPeaks.F f3_l_FnExactHoldPeaks.ok
end Go.Proofs.Ytcadjmbpmbdliab.D
end
section
/- FnExactHoldPeaks, in plain Lean. -/
namespace Go.Proofs.Ytcadjmbpmbdliab.D
open Go Go.Desk
set_option linter.unusedVariables false
/-- a copy in single precision -/
theorem copy_loop (n : Nat) (xs : List Nat) (hx : xs.length ≤ 1048576) : ∀ (j i m : Nat) (ys : List Nat), ys.length = xs.length → i + j = xs.length → j < m →
    f5_l_toFloat32S.l0 n m xs.length (fls .f32 xs) xs.length (fls .f32 (xs.take i ++ ys.drop i)) (i : Int) = some (xs.length, fls .f32 xs) := by
  intro j
  induction j with
  | zero =>
    intro i m ys hl hi hm
    obtain ⟨m, rfl⟩ : ∃ k, m = k + 1 := ⟨m - 1, by omega⟩
    rw [f5_l_toFloat32S.l0, nlt_dec (by omega)]
    simp only [br]
    rw [List.take_of_length_le (by omega), List.drop_eq_nil_of_le (by omega), List.append_nil]
  | succ j ih =>
    intro i m ys hl hi hm
    obtain ⟨m, rfl⟩ : ∃ k, m = k + 1 := ⟨m - 1, by omega⟩
    have hlt : i < xs.length := by omega
    rw [f5_l_toFloat32S.l0, lt_dec hlt, in_dec hlt, Int.toNat_natCast, okAt_fls hlt, wrap_succ (by omega)]
    have hlen : Nat.ble (i + 1) (fls .f32 (xs.take i ++ ys.drop i)).length = true := by
      rw [Nat.ble_eq, fls_length]; simp; omega
    rw [hlen]
    simp only [br, gd, Bool.and_self]
    rw [setN_one, fAt_fls, set_fls]
    have : xs.getD i 0 = xs[i] := by simp [List.getD, hlt]
    rw [this, take_set_drop hlt hl]
    exact ih (i + 1) m ys hl (by omega) (by omega)

theorem copied (n : Nat) (xs : List Nat) (hx : xs.length ≤ 1048576) (hn : xs.length < n) : f5_l_toFloat32S (n + 1) xs.length (fls .f32 xs) = some (xs.length, fls .f32 xs) := by
  rw [f5_l_toFloat32S]
  have h := copy_loop n xs hx xs.length 0 n (List.replicate xs.length 0) (by simp) (by omega) hn
  rw [List.take_zero, List.drop_zero, List.nil_append] at h
  have e : decide ((0 : Int) ≤ ((xs.length : Nat) : Int) ∧ ((xs.length : Nat) : Int) ≤ (2147483648 : Int)) = true := by simp; omega
  rw [reps_fls, e]
  simp only [gd]
  rw [show ((0 : Nat) : Int) = 0 from rfl] at h
  rw [h]; rfl

theorem same_self (n y : Nat) : f14_l_sameFloat (n + 1) y y = some true := by
  unfold f14_l_sameFloat
  simp only [fne_feq]
  cases h : feq FloatKind.f64 y y
  · simp [br]
  · cases h0 : feq FloatKind.f64 y 0 <;> simp [br]

/-- equal to itself -/
theorem eq_loop (n : Nat) (xs : List Nat) (hx : xs.length ≤ 2147483648) : ∀ (j i m : Nat), i + j = xs.length → j < m →
    f7_l_eqFloat32S.l0 (n + 1) m xs.length (fls .f32 xs) xs.length (fls .f32 xs) (i : Int) = some (Sum.inr ()) := by
  intro j
  induction j with
  | zero =>
    intro i m hi hm
    obtain ⟨m, rfl⟩ : ∃ k, m = k + 1 := ⟨m - 1, by omega⟩
    rw [f7_l_eqFloat32S.l0, nlt_dec (by omega)]
    rfl
  | succ j ih =>
    intro i m hi hm
    obtain ⟨m, rfl⟩ : ∃ k, m = k + 1 := ⟨m - 1, by omega⟩
    have hlt : i < xs.length := by omega
    rw [f7_l_eqFloat32S.l0, lt_dec hlt, in_dec hlt, Int.toNat_natCast, okAt_fls hlt, wrap_succ (by omega), fltToFlt_wide]
    simp only [br, gd, bd, Bool.and_self, same_self, Bool.not_true]
    exact ih (i + 1) m (by omega) (by omega)

theorem eq_self (n : Nat) (xs : List Nat) (hx : xs.length ≤ 2147483648) (hn : xs.length < n + 1) : f7_l_eqFloat32S (n + 2) xs.length (fls .f32 xs) xs.length (fls .f32 xs) = some true := by
  rw [f7_l_eqFloat32S]
  have h := eq_loop n xs hx xs.length 0 (n + 1) (by omega) hn
  rw [show ((0 : Nat) : Int) = 0 from rfl] at h
  rw [h, show (((xs.length : Nat) : Int) != ((xs.length : Nat) : Int)) = false by simp]
  rfl

theorem s_few (n k : Nat) (l : List T) : f10_s_l01Few (n + 1) k l = some (decide ((k : Int) ≤ 256)) := by rw [f10_s_l01Few]
theorem i_few (n k : Nat) (l : List T) : f12_i_areSamples (n + 1) k l = some (decide ((k : Int) ≤ 256)) := by rw [f12_i_areSamples]

/-- numbers are counted into a slice -/
theorem mark32_loop (n : Nat) (xs : List Nat) (hx : xs.length ≤ 2147483648) (s : Int) (hs : 0 ≤ s) (hs' : s ≤ 1099511627776) : ∀ (j i m : Nat), i + j = xs.length → j < m →
    f8_l_markFloat32S.l0 n m xs.length (fls .f32 ((marksF .f32 s xs.length).take i ++ xs.drop i)) (s + (i : Int)) (i : Int) = some (xs.length, fls .f32 (marksF .f32 s xs.length), s + (xs.length : Int)) := by
  intro j
  induction j with
  | zero =>
    intro i m hi hm
    obtain ⟨m, rfl⟩ : ∃ k, m = k + 1 := ⟨m - 1, by omega⟩
    have hi : i = xs.length := by omega
    subst hi
    rw [f8_l_markFloat32S.l0, nlt_dec (by omega)]
    simp only [br]
    rw [List.take_of_length_le (by rw [marksF_length]; omega), List.drop_eq_nil_of_le (by omega), List.append_nil]
  | succ j ih =>
    intro i m hi hm
    obtain ⟨m, rfl⟩ : ∃ k, m = k + 1 := ⟨m - 1, by omega⟩
    have hlt : i < xs.length := by omega
    have hlt' : i < (marksF .f32 s xs.length).length := by rw [marksF_length]; exact hlt
    have hlen : Nat.ble (i + 1) (fls .f32 ((marksF .f32 s xs.length).take i ++ xs.drop i)).length = true := by
      apply le_ble
      rw [fls_length, List.length_append, List.length_take, List.length_drop, marksF_length]; omega
    rw [f8_l_markFloat32S.l0, lt_dec hlt, in_dec hlt, Int.toNat_natCast, wrap_succ (by omega), hlen]
    simp only [br, gd]
    rw [setN_one, set_fls, show IntKind.i64.wrap (s + (i : Int) + 1) = s + ((i + 1 : Nat) : Int) by rw [wrap64] <;> omega, ← marksF_at hlt', take_set_drop hlt' (by rw [marksF_length])]
    exact ih (i + 1) m (by omega) (by omega)
theorem mark32 (n : Nat) (xs : List Nat) (hx : xs.length ≤ 2147483648) (s : Int) (hs : 0 ≤ s) (hs' : s ≤ 1099511627776) (hn : xs.length < n) :
    f8_l_markFloat32S (n + 1) xs.length (fls .f32 xs) s = some (s + (xs.length : Int), xs.length, fls .f32 (marksF .f32 s xs.length)) := by
  rw [f8_l_markFloat32S]
  have h := mark32_loop n xs hx s hs hs' xs.length 0 n (by omega) hn
  rw [List.take_zero, List.drop_zero, List.nil_append, show ((0 : Nat) : Int) = 0 from rfl, Int.add_zero] at h
  rw [h]; rfl

/-- counted numbers are held -/
theorem held32_loop (n l : Nat) (hx : l ≤ 2147483648) (s : Int) (hs : 0 ≤ s) (hs' : s ≤ 1099511627776) : ∀ (j i m : Nat), i + j = l → j < m →
    f9_l_heldFloat32S.l0 n m l (fls .f32 (marksF .f32 s l)) (s + (i : Int)) (i : Int) = some (Sum.inr (s + (l : Int))) := by
  intro j
  induction j with
  | zero =>
    intro i m hi hm
    obtain ⟨m, rfl⟩ : ∃ k, m = k + 1 := ⟨m - 1, by omega⟩
    have hi : i = l := by omega
    subst hi
    rw [f9_l_heldFloat32S.l0, nlt_dec (by omega)]
    rfl
  | succ j ih =>
    intro i m hi hm
    obtain ⟨m, rfl⟩ : ∃ k, m = k + 1 := ⟨m - 1, by omega⟩
    have hlt : i < l := by omega
    rw [f9_l_heldFloat32S.l0, lt_dec hlt, in_dec hlt, Int.toNat_natCast, wrap_succ (by omega), okAt_fls (by rw [marksF_length]; exact hlt), fAt_fls, marksF_get hlt, nearest_fne,
      show IntKind.i64.wrap (s + (i : Int) + 1) = s + ((i + 1 : Nat) : Int) by rw [wrap64] <;> omega]
    simp only [br, gd, Bool.and_self]
    exact ih (i + 1) m (by omega) (by omega)
theorem held32 (n l : Nat) (hx : l ≤ 2147483648) (s : Int) (hs : 0 ≤ s) (hs' : s ≤ 1099511627776) (hn : l < n) :
    f9_l_heldFloat32S (n + 1) l (fls .f32 (marksF .f32 s l)) s = some (s + (l : Int)) := by
  rw [f9_l_heldFloat32S]
  have h := held32_loop n l hx s hs hs' l 0 n (by omega) hn
  rw [show ((0 : Nat) : Int) = 0 from rfl, Int.add_zero] at h
  rw [h]; rfl

theorem s_size (n : Nat) {x : Nat} (hg : GoodF .f32 x) : f11_s_l04Size (n + 3) x = some (size32 x) := by
  have hx := hg.lt32
  rw [f11_s_l04Size]
  cases hn : isNaN .f32 x
  · obtain ⟨c1, c2, c3⟩ := neg_size hx hn
    cases hf : flt .f32 x 0
    · have hb : f15_s_l01Bits (n + 2) x = some (x : Int) := by
        rw [f15_s_l01Bits, fne_nan, hn]
        show bd (if isNaN .f32 x then none else some (x : Int)) _ = _
        rw [hn]
        show some (IntKind.i64.wrap (x : Int)) = _
        rw [wrap64] <;> omega
      rw [hb]
      simp only [br, bd]
      by_cases h : x = 2147483648
      · subst h
        rw [c3]; rfl
      · rw [show (((x : Nat) : Int) == 2147483648) = false by simp; omega]
        rcases c2 hf with h' | h'
        · exact absurd h' h
        · simp only; rw [← h']
    · simp only [br]; rw [c1 hf]
  · have hq : x = qnan .f32 := by rw [← hg.1, canon_nan hn]
    rw [flt_nan 0 hn, size_nan hn]
    have hb : f15_s_l01Bits (n + 2) x = some 2143289344 := by rw [f15_s_l01Bits, fne_nan, hn]; rfl
    rw [hb, hq]; rfl
theorem i_size32 (n : Nat) {x : Nat} (hg : GoodF .f32 x) : f13_i_absolute (n + 2) x = some (size32 x) := by
  obtain ⟨h1, h2⟩ := abs_size hg.lt32 hg.1 n
  rw [f13_i_absolute, fltToFlt_wide]
  simp only [bd, h1, h2]
theorem nan_size {x : Nat} : isNaN .f32 (size32 x) = isNaN .f32 x := by
  unfold size32
  cases h : isNaN .f32 x
  · simp only [Bool.false_eq_true, if_false]
    rw [isNaN_f32] at h ⊢
    rw [Nat.mod_mod]; exact h
  · simp only [if_true]; exact isNaN_qnan _

/-- both hold alike -/
theorem hold_loop (n n' : Nat) (xs : List Nat) (hg : ∀ x ∈ xs, GoodF .f32 x) (hx : xs.length ≤ 1048576) (fall : Nat) : ∀ (j i m m' held : Nat) (acc : List Nat), acc.length = i → i + j = xs.length → j < m → j < m' →
    ∃ ys, ys.length = xs.length ∧ f4_s_HoldPeaks.l0 (n + 3) m xs.length (fls .f32 xs) held fall acc.length (fls .f32 acc) (i : Int) = some (ys.length, fls .f32 ys) ∧
      f6_i_HoldPeaks.l0 (n' + 2) m' xs.length (fls .f32 xs) held fall acc.length (fls .f32 acc) xs.length (fls .f32 xs) (xs.length : Int) (i : Int) = some (ys.length, fls .f32 ys) := by
  intro j
  induction j with
  | zero =>
    intro i m m' held acc ha hi hm hm'
    obtain ⟨m, rfl⟩ : ∃ k, m = k + 1 := ⟨m - 1, by omega⟩
    obtain ⟨m', rfl⟩ : ∃ k, m' = k + 1 := ⟨m' - 1, by omega⟩
    refine ⟨acc, by omega, ?_, ?_⟩
    · rw [f4_s_HoldPeaks.l0, nlt_dec (by omega)]; rfl
    · rw [f6_i_HoldPeaks.l0, nlt_dec (by omega)]; rfl
  | succ j ih =>
    intro i m m' held acc ha hi hm hm'
    obtain ⟨m, rfl⟩ : ∃ k, m = k + 1 := ⟨m - 1, by omega⟩
    obtain ⟨m', rfl⟩ : ∃ k, m' = k + 1 := ⟨m' - 1, by omega⟩
    have hlt : i < xs.length := by omega
    have hgi : GoodF .f32 (fAt (fls .f32 xs) i) := by
      rw [fAt_fls]
      have : xs.getD i 0 = xs[i] := by simp [List.getD, hlt]
      rw [this]; exact hg _ (List.getElem_mem _)
    rw [f4_s_HoldPeaks.l0, f6_i_HoldPeaks.l0, lt_dec hlt, in_dec hlt, Int.toNat_natCast, okAt_fls hlt, wrap_succ (by omega), s_size n hgi, le_ble (show acc.length + 1 ≤ 2147483648 by omega)]
    simp only [br, gd, bd, Bool.and_self, i_size32 n' hgi, fne_nan, fgt_flt .f32 0]
    have next : ∀ h, ∃ ys, ys.length = xs.length ∧ f4_s_HoldPeaks.l0 (n + 3) m xs.length (fls .f32 xs) h fall (acc.length + 1) (fls .f32 acc ++ setN (reps 1 [T.flt FloatKind.f32 0]) 0 [T.flt FloatKind.f32 h]) ((i + 1 : Nat) : Int) = some (ys.length, fls .f32 ys) ∧
        f6_i_HoldPeaks.l0 (n' + 2) m' xs.length (fls .f32 xs) h fall (acc.length + 1) (fls .f32 acc ++ setN (reps 1 [T.flt FloatKind.f32 0]) 0 [T.flt FloatKind.f32 h]) xs.length (fls .f32 xs) (xs.length : Int) ((i + 1 : Nat) : Int) = some (ys.length, fls .f32 ys) := by
      intro h
      have := ih (i + 1) m m' h (acc ++ [h]) (by simp; omega) (by omega) (by omega) (by omega)
      simpa [fls, setN, reps] using this
    cases hn : isNaN FloatKind.f32 (size32 (fAt (fls FloatKind.f32 xs) i))
    · cases hgt : fgt FloatKind.f32 (size32 (fAt (fls FloatKind.f32 xs) i)) (fmul FloatKind.f32 held fall)
      · exact next _
      · exact next _
    · rw [fgt_nan _ hn]
      cases hz : flt FloatKind.f32 (fmul FloatKind.f32 held fall) 0
      · exact next _
      · exact next _

theorem both (n n' : Nat) (xs : List Nat) (hg : ∀ x ∈ xs, GoodF .f32 x) (held fall : Nat) (hn : xs.length < n) (hn' : xs.length < n') (hx : xs.length ≤ 1048576) :
    ∃ ys c, ys.length ≤ xs.length ∧ f4_s_HoldPeaks (n + 5) xs.length (fls .f32 xs) held fall = some (ys.length, fls .f32 ys, c) ∧ f6_i_HoldPeaks (n' + 5) xs.length (fls .f32 xs) held fall = some (ys.length, fls .f32 ys, c) := by
  rw [f4_s_HoldPeaks, f6_i_HoldPeaks, s_few, i_few]
  simp only [bd]
  by_cases h0 : (xs.length : Int) ≤ 256
  case neg => rw [decide_eq_false h0]; exact ⟨[], false, by simp, rfl, rfl⟩
  rw [decide_eq_true h0]
  obtain ⟨ys, hl, e1, e2⟩ := hold_loop (n + 1) (n' + 2) xs hg hx fall xs.length 0 (n + 4) (n' + 4) held [] rfl (by omega) (by omega) (by omega)
  refine ⟨ys, true, by omega, ?_, ?_⟩
  · have e1 : f4_s_HoldPeaks.l0 (n + 4) (n + 4) xs.length (fls .f32 xs) held fall 0 (reps 0 [(T.flt FloatKind.f32 0)]) (0 : Int) = some (ys.length, fls .f32 ys) := e1
    simp only [br, Bool.not_true, e1]
  · have e2 : f6_i_HoldPeaks.l0 (n' + 4) (n' + 4) xs.length (fls .f32 xs) held fall 0 [] xs.length (fls .f32 xs) (xs.length : Int) (0 : Int) = some (ys.length, fls .f32 ys) := e2
    simp only [br, Bool.not_true, e2]

theorem exact_ (xs : List Nat) (hg : ∀ x ∈ xs, GoodF .f32 x) (hl : xs.length ≤ maxLen) (held : Nat) (gh : GoodF .f32 held) (fall : Nat) (gf : GoodF .f32 fall) : ∃ n, f3_l_FnExactHoldPeaks n xs.length (fls .f32 xs) held fall = some true := by
  refine ⟨xs.length + 600, ?_⟩
  rw [f3_l_FnExactHoldPeaks]
  cases h : decide (((xs.length : Nat) : Int) > (1048576 : Int))
  · have hx : xs.length ≤ 1048576 := by simp at h; omega
    obtain ⟨ys, c, hy, h1, h2⟩ := both (xs.length + 594) (xs.length + 594) xs hg held fall (by omega) (by omega) hx
    simp only [br, copied (xs.length + 598) xs hx (by omega), bd, h1, h2, beq_self_eq_true, Bool.not_true, eq_self (xs.length + 597) xs (by omega) (by omega), eq_self (xs.length + 597) ys (by omega) (by omega),
      mark32 (xs.length + 598) xs (by omega) 1 (by omega) (by omega) (by omega), mark32 (xs.length + 598) ys (by omega) 1 (by omega) (by omega) (by omega), held32 (xs.length + 598) ys.length (by omega) 1 (by omega) (by omega) (by omega),
      bne_self_eq_false, decide_eq_false (show ¬ ((1 : Int) + (xs.length : Int) < 0) by omega), decide_eq_false (show ¬ ((1 : Int) + (ys.length : Int) < 0) by omega)]
  · rfl
theorem law3 : ∀ args, LawArgs E Try.f3.params.toList args → ∃ N os, evalFn E N 3 args = some ⟨[⟨false, [.leaf], [.bool true]⟩], os⟩ := by
  intro args h0
  have hp : Try.f3.params.toList = [22, 23, 23] := by kernel_rfl
  rw [hp] at h0
  obtain ⟨ts0, r0, rfl, hw0, h1⟩ := h0.cons_inv (d := ⟨false, 1, 24, [.sl .own [.leaf]], [.lst 0 []], .slc 23⟩) (by kernel_rfl)
  obtain ⟨n0, cs0, rfl, gl0, hs0⟩ := hw0.slc_inv (e := 23) (d := ⟨false, 1, 24, [.sl .own [.leaf]], [.lst 0 []], .slc 23⟩) (by kernel_rfl) rfl
  obtain ⟨a0, rfl, rfl, g0⟩ := hs0.flts (k := .f32) (d := ⟨false, 1, 4, [.leaf], [.flt .f32 0], .flt .f32⟩) (by kernel_rfl) rfl
  obtain ⟨ts1, r1, rfl, hw1, h2⟩ := h1.cons_inv (d := ⟨false, 1, 4, [.leaf], [.flt .f32 0], .flt .f32⟩) (by kernel_rfl)
  obtain ⟨a1, rfl, g1⟩ := hw1.flt_inv (k := .f32) (d := ⟨false, 1, 4, [.leaf], [.flt .f32 0], .flt .f32⟩) (by kernel_rfl) rfl
  obtain ⟨ts2, r2, rfl, hw2, h3⟩ := h2.cons_inv (d := ⟨false, 1, 4, [.leaf], [.flt .f32 0], .flt .f32⟩) (by kernel_rfl)
  obtain ⟨a2, rfl, g2⟩ := hw2.flt_inv (k := .f32) (d := ⟨false, 1, 4, [.leaf], [.flt .f32 0], .flt .f32⟩) (by kernel_rfl) rfl
  obtain rfl := h3.nil_inv
  obtain ⟨N, hN⟩ := exact_ a0 g0 gl0 a1 g1 a2 g2
  exact ⟨N, _, f3_l_FnExactHoldPeaks.ok N (a0.length, fls .f32 a0, a1, a2) true hN⟩


end Go.Proofs.Ytcadjmbpmbdliab.D
end
section
/- FnExactHoldPeaks holds: for every input the law returns true, and its arguments read as before. -/
namespace Go.Proofs.Ytcadjmbpmbdliab.fnExactHoldPeaks
open Go Go.ChangeShapes Go.WideShapes Go.ChangeAt Go.RowKit Go.Desk
set_option linter.unusedVariables false
theorem own : ownKnob Try.prog.godebug = none := by kernel_rfl
theorem laidOut : laidOutB Try.prog = true := by kernel_rfl
set_option maxRecDepth 100000 in
theorem lifted (os : Os) (started : os.Started) (H : Type) (enc : TypeId × Value → H) :
    ReturnsInHanded {} Try.checked os 3 .any (Rows.fnExactHoldPeaksSpec.pre6 enc Try.prog Try.f3 Rows.fnExactHoldPeaksRow.domain false) (Rows.fnExactHoldPeaksSpec.post enc Try.prog Try.f3 false true false false) := by
  refine returnsInHanded_of_change (C := Try.checked) own started (by kernel_rfl) Try.func3
    (ChangeSpec.witness6 (enc := enc) (C := Try.checked) false ⟨#[], #[.slice none 0 0, .float .f32 0, .float .f32 0], []⟩ 8 (by kernel_rfl) (by kernel_rfl) (by kernel_rfl) (by kernel_rfl)) ?_
  intro W base args ds gs before hval hW hcnd _
  exact law_contract (c := D.c3) Try.checked.mixed D.tysOk D.fnOk Try.func3 (by kernel_rfl) (by kernel_rfl) (by kernel_rfl) Try.underlying4 rfl
    (fun ds h => by
      rw [show Try.f3.params.toList.length = 3 by kernel_rfl] at h
      match ds, h with
      | [_, _, _], _ => rfl)
    laidOut (N := 8) (by kernel_rfl) (by kernel_rfl) D.law3 hval hW
theorem over : Rows.fnExactHoldPeaksRow.holds Try.pinned (OpenSpec.ofChange Rows.fnExactHoldPeaksSpec) :=
  OpenClaim.holds_of_wide 3 Try.f3 rfl rfl rfl rfl rfl rfl rfl ⟨rfl, rfl, rfl, rfl, rfl⟩ rfl rfl rfl rfl rfl (by kernel_rfl) Try.func3 (by kernel_rfl)
    (of_decide_eq_true (by kernel_rfl)) (by unfold Func.isWrapper; first | (rw [if_pos (by decide +kernel)]; kernel_rfl) | (rw [if_neg (by decide +kernel)]; exact ⟨rfl, rfl⟩))
    (fun os started H enc _ => lifted os started H enc)
theorem proved : Rows.FnExactHoldPeaksSaid := over
#print axioms proved
end Go.Proofs.Ytcadjmbpmbdliab.fnExactHoldPeaks
namespace Go.Proofs.Ytcadjmbpmbdliab
/-- The row, under a short name, for the claim. -/
theorem fnExactHoldPeaks_holds : Rows.FnExactHoldPeaksSaid := fnExactHoldPeaks.proved
end Go.Proofs.Ytcadjmbpmbdliab
end
