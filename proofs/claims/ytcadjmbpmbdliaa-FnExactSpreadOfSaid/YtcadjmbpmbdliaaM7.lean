/- FnExactSpreadOf holds: for every input the law returns true, and its arguments read as before. -/
import Derived.Test.YtcadjmbpmbdliaaChecked
import Derived.Test.YtcadjmbpmbdliaaDeskE
import Derived.KernelRfl
import Derived.Test.YtcadjmbpmbdliaaRows
import Derived.WalkKit
import Derived.ProofKit
import Derived.OpenShut
import Derived.ShutString
import Derived.ChangeOld
import Derived.Below
import Derived.SizedLaws
set_option linter.all false
section
/- The tables of the reading: types and functions of the translation, with what is kept at each region's beginning (written by a program of this workplace). -/
namespace Go.Proofs.Ytcadjmbpmbdliaa.D
open Go Go.Desk
def bodyOf (f : Func) : Code := match f.body with
  | some c => c
  | none => .skip
def tyTab : List (Nat × TD) := [
  (2, ⟨false, 1, 8, [.leaf], [.int .i64 0], .int .i64⟩),
  (3, ⟨false, 1, 8, [.leaf], [.int .i64 0], .int .i64⟩),
  (4, ⟨false, 1, 1, [.leaf], [.bool false], .bool⟩),
  (22, ⟨false, 1, 24, [.sl .own [.leaf]], [.lst 0 []], .slc 28⟩),
  (28, ⟨false, 1, 4, [.leaf], [.flt .f32 0], .flt .f32⟩),
  (32, ⟨false, 1, 8, [.leaf], [.flt .f64 0], .flt .f64⟩),
  (45, ⟨false, 1, 24, [.sl .own [.leaf]], [.lst 0 []], .slc 2⟩)]
noncomputable def c7 : Code := bodyOf Try.f7
noncomputable def c10 : Code := bodyOf Try.f10
noncomputable def c12 : Code := bodyOf Try.f12
noncomputable def c15 : Code := bodyOf Try.f15
noncomputable def c25 : Code := bodyOf Try.f25
noncomputable def c27 : Code := bodyOf Try.f27
noncomputable def c28 : Code := bodyOf Try.f28
noncomputable def c29 : Code := bodyOf Try.f29
noncomputable def c30 : Code := bodyOf Try.f30
noncomputable def c31 : Code := bodyOf Try.f31
noncomputable def c34 : Code := bodyOf Try.f34
noncomputable def c35 : Code := bodyOf Try.f35
noncomputable def c36 : Code := bodyOf Try.f36
noncomputable def c39 : Code := bodyOf Try.f39
noncomputable def fnTab : List (Nat × FD) := [
  (7, .code c7 [.val, .val] [] [(4, none)] [(0, [0, 1]), (1, [0, 1]), (2, []), (3, [0, 1]), (4, [0, 1, 5, 6]), (5, [0, 1, 5, 6, 7]), (6, [0, 1, 5, 6, 7, 8, 9]), (7, []), (8, [0, 1, 5, 6, 7, 8, 9]), (9, []), (10, [0, 1, 5, 6, 7, 8, 9]), (11, [0, 1, 5, 6, 7, 8, 9, 10]), (12, [0, 1, 5, 6, 8, 9, 10]), (13, []), (14, [0, 1, 5, 6, 8]), (15, [0, 1, 5, 6, 8, 11]), (16, [0, 1, 5, 6, 8, 11]), (17, [0, 1, 5, 6, 8, 11, 12]), (18, [0, 1, 5, 6, 8, 11, 12]), (19, []), (20, [0, 1, 5, 6, 8, 11, 12]), (21, []), (22, [0, 1, 5, 6, 8, 11]), (23, [5, 6, 8, 11, 13, 14]), (24, []), (25, [8, 11]), (26, [8, 11, 12]), (27, [11, 12]), (28, []), (29, [11, 12]), (30, []), (31, [])]),
  (10, .code c10 [.val] [] [(2, none)] [(0, [0]), (1, [0]), (2, [0, 3]), (3, [0, 3, 4]), (4, [0, 3, 4]), (5, [0, 3, 4]), (6, [3]), (1000003, [3])]),
  (12, .code c12 [.val, .val] [] [(4, none)] [(0, [0, 1]), (1, [0, 1]), (2, []), (3, [0, 1]), (4, [0, 1, 5]), (5, [0, 1, 5]), (6, [0, 1, 5]), (7, []), (8, []), (1000004, [4])]),
  (15, .code c15 [.val, .val] [] [(4, none)] [(0, [0, 1]), (1, [0, 1]), (2, [0, 1]), (3, [0, 1]), (4, [0, 1]), (5, [0, 1])]),
  (25, .code c25 [.io, .val] [0] [(4, none)] [(0, [0, 1]), (1, [0, 1]), (2, [0, 1, 5]), (3, [0, 1, 5]), (4, [0, 1, 5]), (5, [0, 1, 5]), (6, [0, 1]), (1000002, [0, 1])]),
  (27, .code c27 [.val, .val] [] [(4, none), (5, none)] [(0, [0, 1]), (1, [0, 1]), (2, []), (3, [0, 1]), (4, [0, 1, 6]), (5, [0, 1, 6, 7]), (6, [0, 1, 6, 7]), (7, [0, 1, 6, 7]), (8, [0, 1, 6, 7]), (9, [0, 1, 6, 7, 8]), (10, [6]), (1000005, [6])]),
  (28, .code c28 [.val, .val] [] [(4, none), (5, none)] [(0, [0, 1]), (1, [0, 1]), (2, []), (3, [0, 1]), (4, [0, 1, 6]), (5, [0, 1, 6, 19, 20, 21]), (6, [0, 1, 6, 19, 20, 21]), (7, [0, 1, 6, 8, 19, 20, 21]), (8, [0, 1, 6, 8, 19, 20, 21]), (9, [0, 1, 6, 19, 20, 21]), (10, [6]), (1000005, [6])]),
  (29, .code c29 [.val, .val] [] [(4, none)] [(0, [0, 1]), (1, [0, 1]), (2, []), (3, [0, 1]), (4, [0, 1, 5]), (5, [0, 1, 5]), (6, [0, 1, 5]), (7, []), (8, []), (1000004, [4])]),
  (30, .code c30 [.io, .val] [0] [(4, none)] [(0, [0, 1]), (1, [0, 1]), (2, [0, 1, 5]), (3, [0, 1, 5]), (4, [0, 1, 5]), (5, [0, 1, 5]), (6, [0, 1]), (1000002, [0, 1])]),
  (31, .code c31 [.val, .val] [] [(4, none)] [(0, [0, 1]), (1, [0, 1]), (2, [0, 1, 5]), (3, [0, 1, 5]), (4, [0, 1, 5]), (5, []), (6, [0, 1, 5]), (7, [1]), (1000002, [1, 4])]),
  (34, .code c34 [.val] [] [(2, none)] [(0, [0]), (1, [0])]),
  (35, .code c35 [.val] [] [(2, none)] [(0, [0]), (1, [0])]),
  (36, .code c36 [.val, .val, .val] [] [(6, none)] [(0, [0, 1, 2]), (1, [0, 1, 2])]),
  (39, .code c39 [.val, .val, .val] [] [(6, none)] [(0, [0, 1, 2]), (1, [0, 1, 2])])]
noncomputable def E : Env := ⟨fun t => lookT tyTab t, lookF fnTab⟩
noncomputable def fdAt (n : Nat) : FD := match lookF fnTab n with
  | some d => d
  | none => .ext fun _ => none
noncomputable def keepAt (n : Nat) : List (Nat × List Nat) := match lookF fnTab n with
  | some d => d.keep
  | none => []
theorem tysOk : TysOk Try.prog E := tysOk_of (l := tyTab) (fun _ => rfl) (by kernel_rfl)
theorem ft7 : FnTab Try.prog E 7 (fdAt 7) := fnTab_code (c := c7) (modes := (fdAt 7).ms) (outs := (fdAt 7).os) (results := (fdAt 7).rs) (keep := (fdAt 7).keep) Try.func7 (by kernel_rfl) (by kernel_rfl) (by kernel_rfl)
theorem ft10 : FnTab Try.prog E 10 (fdAt 10) := fnTab_code (c := c10) (modes := (fdAt 10).ms) (outs := (fdAt 10).os) (results := (fdAt 10).rs) (keep := (fdAt 10).keep) Try.func10 (by kernel_rfl) (by kernel_rfl) (by kernel_rfl)
theorem ft12 : FnTab Try.prog E 12 (fdAt 12) := fnTab_code (c := c12) (modes := (fdAt 12).ms) (outs := (fdAt 12).os) (results := (fdAt 12).rs) (keep := (fdAt 12).keep) Try.func12 (by kernel_rfl) (by kernel_rfl) (by kernel_rfl)
theorem ft15 : FnTab Try.prog E 15 (fdAt 15) := fnTab_code (c := c15) (modes := (fdAt 15).ms) (outs := (fdAt 15).os) (results := (fdAt 15).rs) (keep := (fdAt 15).keep) Try.func15 (by kernel_rfl) (by kernel_rfl) (by kernel_rfl)
theorem ft25 : FnTab Try.prog E 25 (fdAt 25) := fnTab_code (c := c25) (modes := (fdAt 25).ms) (outs := (fdAt 25).os) (results := (fdAt 25).rs) (keep := (fdAt 25).keep) Try.func25 (by kernel_rfl) (by kernel_rfl) (by kernel_rfl)
theorem ft27 : FnTab Try.prog E 27 (fdAt 27) := fnTab_code (c := c27) (modes := (fdAt 27).ms) (outs := (fdAt 27).os) (results := (fdAt 27).rs) (keep := (fdAt 27).keep) Try.func27 (by kernel_rfl) (by kernel_rfl) (by kernel_rfl)
theorem ft28 : FnTab Try.prog E 28 (fdAt 28) := fnTab_code (c := c28) (modes := (fdAt 28).ms) (outs := (fdAt 28).os) (results := (fdAt 28).rs) (keep := (fdAt 28).keep) Try.func28 (by kernel_rfl) (by kernel_rfl) (by kernel_rfl)
theorem ft29 : FnTab Try.prog E 29 (fdAt 29) := fnTab_code (c := c29) (modes := (fdAt 29).ms) (outs := (fdAt 29).os) (results := (fdAt 29).rs) (keep := (fdAt 29).keep) Try.func29 (by kernel_rfl) (by kernel_rfl) (by kernel_rfl)
theorem ft30 : FnTab Try.prog E 30 (fdAt 30) := fnTab_code (c := c30) (modes := (fdAt 30).ms) (outs := (fdAt 30).os) (results := (fdAt 30).rs) (keep := (fdAt 30).keep) Try.func30 (by kernel_rfl) (by kernel_rfl) (by kernel_rfl)
theorem ft31 : FnTab Try.prog E 31 (fdAt 31) := fnTab_code (c := c31) (modes := (fdAt 31).ms) (outs := (fdAt 31).os) (results := (fdAt 31).rs) (keep := (fdAt 31).keep) Try.func31 (by kernel_rfl) (by kernel_rfl) (by kernel_rfl)
theorem ft34 : FnTab Try.prog E 34 (fdAt 34) := fnTab_code (c := c34) (modes := (fdAt 34).ms) (outs := (fdAt 34).os) (results := (fdAt 34).rs) (keep := (fdAt 34).keep) Try.func34 (by kernel_rfl) (by kernel_rfl) (by kernel_rfl)
theorem ft35 : FnTab Try.prog E 35 (fdAt 35) := fnTab_code (c := c35) (modes := (fdAt 35).ms) (outs := (fdAt 35).os) (results := (fdAt 35).rs) (keep := (fdAt 35).keep) Try.func35 (by kernel_rfl) (by kernel_rfl) (by kernel_rfl)
theorem ft36 : FnTab Try.prog E 36 (fdAt 36) := fnTab_code (c := c36) (modes := (fdAt 36).ms) (outs := (fdAt 36).os) (results := (fdAt 36).rs) (keep := (fdAt 36).keep) Try.func36 (by kernel_rfl) (by kernel_rfl) (by kernel_rfl)
theorem ft39 : FnTab Try.prog E 39 (fdAt 39) := fnTab_code (c := c39) (modes := (fdAt 39).ms) (outs := (fdAt 39).os) (results := (fdAt 39).rs) (keep := (fdAt 39).keep) Try.func39 (by kernel_rfl) (by kernel_rfl) (by kernel_rfl)
theorem allFns : AllFns Try.prog E fnTab := .cons ft7 (.cons ft10 (.cons ft12 (.cons ft15 (.cons ft25 (.cons ft27 (.cons ft28 (.cons ft29 (.cons ft30 (.cons ft31 (.cons ft34 (.cons ft35 (.cons ft36 (.cons ft39 (.nil))))))))))))))
theorem fnOk : ∀ f fd, E.fn f = some fd → FnTab Try.prog E f fd := fnTab_of (l := fnTab) (fun _ => rfl) allFns
end Go.Proofs.Ytcadjmbpmbdliaa.D
end
section
/- Plain functions for the law's Go functions, each tied to the reading by the kernel (printed by a program of this workplace). -/
namespace Go.Proofs.Ytcadjmbpmbdliaa.D
open Go Go.Desk
set_option linter.unusedVariables false
def f10_l_toFloat32S.l0 (n : Nat) : Nat → Nat → List T → Nat → List T → Int → Option (Nat × List T)
  | 0, _, _, _, _, _ => none
  | m + 1, n1, l2, n3, l4, i5 =>
    br (decide (i5 < ((n1 : Nat) : Int))) (
     gd ((decide (((0 : Int) ≤ i5) ∧ (i5 < ((n1 : Nat) : Int)))) && (okAt [(CK.flt FloatKind.f32)] l2 (Int.toNat i5))) (
     gd (decide (((0 : Int) ≤ i5) ∧ (i5 < ((n3 : Nat) : Int)))) (
     gd (Nat.ble ((Int.toNat i5) + 1) (List.length l4)) (
     let l6 : List T := (setN l4 (Int.toNat i5) [(T.flt FloatKind.f32 (fAt l2 (Int.toNat i5)))])
     f10_l_toFloat32S.l0 n m n1 l2 n3 l6 (IntKind.i64.wrap (i5 + (1 : Int))))))) (
     some (n3, l4))
def f10_l_toFloat32S : Nat → Nat → List T → Option (Nat × List T)
  | 0, _, _ => none
  | n + 1, n1, l2 =>
    gd (decide (((0 : Int) ≤ ((n1 : Nat) : Int)) ∧ (((n1 : Nat) : Int) ≤ (2147483648 : Int)))) (
    let l3 : List T := (reps n1 [(T.flt FloatKind.f32 0)])
    bd (f10_l_toFloat32S.l0 n n n1 l2 n1 l3 (0 : Int)) fun r4 =>
    let n5 : Nat := r4.1
    let l6 : List T := r4.2
    some (n5, l6))
def sg_l : Sig (Nat × List T) where
  pk := fun v => [.lst v.1 v.2]
  up := fun ls => match ls with
    | [.lst a0 a1] => some (a0, a1)
    | _ => none
  ok := by
    intro ls v h
    split at h
    · cases h; rfl
    · cases h

def sg_lli : Sig (Nat × List T × Nat × List T × Int) where
  pk := fun v => [.lst v.1 v.2.1, .lst v.2.2.1 v.2.2.2.1, .int v.2.2.2.2]
  up := fun ls => match ls with
    | [.lst a0 a1, .lst a2 a3, .int a4] => some (a0, a1, a2, a3, a4)
    | _ => none
  ok := by
    intro ls v h
    split at h
    · cases h; rfl
    · cases h

def f10_l_toFloat32S.l0.P : AS := ⟨[(0, .val false [.sl .shr [.leaf]] [.lst 0 []] [] 0), (3, .val false [.sl .own [.leaf]] [.lst 0 []] [] 0), (4, .val false [.leaf] [.int .i64 0] [] 0)], 0⟩
def f10_l_toFloat32S.l0.A : Alt (Nat × List T) := .one (.exit 0) ⟨[(3, .val false [.sl .own [.leaf]] [.lst 0 []] [] 0)], 0⟩ sg_l
def f10_l_toFloat32S.l0.F (n m : Nat) (v : Nat × List T × Nat × List T × Int) := f10_l_toFloat32S.l0 n m v.1 v.2.1 v.2.2.1 v.2.2.2.1 v.2.2.2.2
def f10_l_toFloat32S.l0.W (n : Nat) : LpW := .of 48 f10_l_toFloat32S.l0.P sg_lli f10_l_toFloat32S.l0.A (f10_l_toFloat32S.l0.F n n)
def f10_l_toFloat32S.P : List Arg := [⟨.val, ⟨false, [.sl .shr [.leaf]], [.lst 0 []]⟩⟩]
def f10_l_toFloat32S.A : RAlt (Nat × List T) := .one ⟨[⟨false, [.sl .own [.leaf]], [.lst 0 []]⟩], [none]⟩ sg_l
def f10_l_toFloat32S.F (n : Nat) (v : Nat × List T) := f10_l_toFloat32S n v.1 v.2
noncomputable def f10_l_toFloat32S.O (n : Nat) : Orc := orcOf (E := E) [] [f10_l_toFloat32S.l0.W n] n
theorem f10_l_toFloat32S.l0.ok (n : Nat) : LpOk (f10_l_toFloat32S.O n) E (evalFn E n) n (keepAt 10) (.loop (loopAt c10 0)) :=
  lp_pure f10_l_toFloat32S.l0.P sg_lli f10_l_toFloat32S.l0.A (f10_l_toFloat32S.l0.F n) (orcOf_cf _ _ n) (lpOk_of (bs := []) (by kernel_rfl) .nil) (fun _ => rfl) (fun _ _ => by kernel_rfl) (fun _ _ _ => by kernel_rfl)
theorem f10_l_toFloat32S.ok : ∀ n v x, f10_l_toFloat32S.F n v = some x → evalFn E n 10 (flAs f10_l_toFloat32S.P (sg_l.pk v)) = some (f10_l_toFloat32S.A.enc x) :=
  fn_pure (modes := (fdAt 10).ms) (outs := (fdAt 10).os) (results := (fdAt 10).rs) f10_l_toFloat32S.O (c := c10) (keep := keepAt 10) (by kernel_rfl) (fun n => orcOf_cf _ _ n) (fun n => lpOk_of (bs := [loopAt c10 0]) (by kernel_rfl) (.cons (f10_l_toFloat32S.l0.ok n) .nil)) (fun _ => rfl) (fun _ _ => by kernel_rfl)
noncomputable def f10_l_toFloat32S.w : FnW E := fnW 10 f10_l_toFloat32S.P sg_l f10_l_toFloat32S.A f10_l_toFloat32S.F f10_l_toFloat32S.ok

def f34_s_l01Few : Nat → Nat → List T → Option (Bool)
  | 0, _, _ => none
  | n + 1, n1, l2 =>
    some (decide (((n1 : Nat) : Int) ≤ (256 : Int)))
def sg_b : Sig (Bool) where
  pk := fun v => [.bool v]
  up := fun ls => match ls with
    | [.bool a0] => some a0
    | _ => none
  ok := by
    intro ls v h
    split at h
    · cases h; rfl
    · cases h

def f34_s_l01Few.P : List Arg := [⟨.val, ⟨false, [.sl .shr [.leaf]], [.lst 0 []]⟩⟩]
def f34_s_l01Few.A : RAlt (Bool) := .one ⟨[⟨false, [.leaf], [.bool false]⟩], [none]⟩ sg_b
def f34_s_l01Few.F (n : Nat) (v : Nat × List T) := f34_s_l01Few n v.1 v.2
noncomputable def f34_s_l01Few.O (n : Nat) : Orc := orcOf (E := E) [] [] n
theorem f34_s_l01Few.ok : ∀ n v x, f34_s_l01Few.F n v = some x → evalFn E n 34 (flAs f34_s_l01Few.P (sg_l.pk v)) = some (f34_s_l01Few.A.enc x) :=
  fn_pure (modes := (fdAt 34).ms) (outs := (fdAt 34).os) (results := (fdAt 34).rs) f34_s_l01Few.O (c := c34) (keep := keepAt 34) (by kernel_rfl) (fun n => orcOf_cf _ _ n) (fun n => lpOk_of (bs := []) (by kernel_rfl) .nil) (fun _ => rfl) (fun _ _ => by kernel_rfl)
noncomputable def f34_s_l01Few.w : FnW E := fnW 34 f34_s_l01Few.P sg_l f34_s_l01Few.A f34_s_l01Few.F f34_s_l01Few.ok

def f36_s_l00In : Nat → Int → Int → Int → Option (Bool)
  | 0, _, _, _ => none
  | n + 1, i1, i2, i3 =>
    br (decide (i1 ≥ i2)) (
     some (decide (i1 ≤ i3))) (
     some false)
def sg_iii : Sig (Int × Int × Int) where
  pk := fun v => [.int v.1, .int v.2.1, .int v.2.2]
  up := fun ls => match ls with
    | [.int a0, .int a1, .int a2] => some (a0, a1, a2)
    | _ => none
  ok := by
    intro ls v h
    split at h
    · cases h; rfl
    · cases h

def f36_s_l00In.P : List Arg := [⟨.val, ⟨false, [.leaf], [.int .i64 0]⟩⟩, ⟨.val, ⟨false, [.leaf], [.int .i64 0]⟩⟩, ⟨.val, ⟨false, [.leaf], [.int .i64 0]⟩⟩]
def f36_s_l00In.A : RAlt (Bool) := .one ⟨[⟨false, [.leaf], [.bool false]⟩], [none, none, none]⟩ sg_b
def f36_s_l00In.F (n : Nat) (v : Int × Int × Int) := f36_s_l00In n v.1 v.2.1 v.2.2
noncomputable def f36_s_l00In.O (n : Nat) : Orc := orcOf (E := E) [] [] n
theorem f36_s_l00In.ok : ∀ n v x, f36_s_l00In.F n v = some x → evalFn E n 36 (flAs f36_s_l00In.P (sg_iii.pk v)) = some (f36_s_l00In.A.enc x) :=
  fn_pure (modes := (fdAt 36).ms) (outs := (fdAt 36).os) (results := (fdAt 36).rs) f36_s_l00In.O (c := c36) (keep := keepAt 36) (by kernel_rfl) (fun n => orcOf_cf _ _ n) (fun n => lpOk_of (bs := []) (by kernel_rfl) .nil) (fun _ => rfl) (fun _ _ => by kernel_rfl)
noncomputable def f36_s_l00In.w : FnW E := fnW 36 f36_s_l00In.P sg_iii f36_s_l00In.A f36_s_l00In.F f36_s_l00In.ok

def f27_s_SpreadOf.l0 (n : Nat) : Nat → Nat → List T → Int → Nat → List T → Int → Option (Nat × List T)
  | 0, _, _, _, _, _, _ => none
  | m + 1, n1, l2, i3, n4, l5, i6 =>
    br (decide (i6 < ((n1 : Nat) : Int))) (
     gd ((decide (((0 : Int) ≤ i6) ∧ (i6 < ((n1 : Nat) : Int)))) && (okAt [(CK.flt FloatKind.f32)] l2 (Int.toNat i6))) (
     br (fge FloatKind.f32 (fAt l2 (Int.toNat i6)) 3212836864) (
      gd ((decide (((0 : Int) ≤ i6) ∧ (i6 < ((n1 : Nat) : Int)))) && (okAt [(CK.flt FloatKind.f32)] l2 (Int.toNat i6))) (
      br (flt FloatKind.f32 (fAt l2 (Int.toNat i6)) 1065353216) (
       gd ((decide (((0 : Int) ≤ i6) ∧ (i6 < ((n1 : Nat) : Int)))) && (okAt [(CK.flt FloatKind.f32)] l2 (Int.toNat i6))) (
       bd ((fltToFlt FloatKind.f32 (fAt l2 (Int.toNat i6)) FloatKind.f64)) fun y7 =>
       let x8 : Nat := (fdiv FloatKind.f64 (fadd FloatKind.f64 y7 4607182418800017408) 4611686018427387904)
       bd ((fltToInt FloatKind.f64 (fmul FloatKind.f64 x8 (FloatKind.nearest FloatKind.f64 i3)) IntKind.i64)) fun y9 =>
       gd (decide (((0 : Int) ≤ y9) ∧ (y9 < ((n4 : Nat) : Int)))) (
       gd (okAt [(CK.int IntKind.i64)] l5 (Int.toNat y9)) (
       gd (decide (((0 : Int) ≤ y9) ∧ (y9 < ((n4 : Nat) : Int)))) (
       gd (Nat.ble ((Int.toNat y9) + 1) (List.length l5)) (
       let l10 : List T := (setN l5 (Int.toNat y9) [(T.int IntKind.i64 (IntKind.i64.wrap ((iAt l5 (Int.toNat y9)) + (1 : Int))))])
       f27_s_SpreadOf.l0 n m n1 l2 i3 n4 l10 (IntKind.i64.wrap (i6 + (1 : Int))))))))) (
       f27_s_SpreadOf.l0 n m n1 l2 i3 n4 l5 (IntKind.i64.wrap (i6 + (1 : Int)))))) (
      f27_s_SpreadOf.l0 n m n1 l2 i3 n4 l5 (IntKind.i64.wrap (i6 + (1 : Int)))))) (
     some (n4, l5))
def f27_s_SpreadOf : Nat → Nat → List T → Int → Option (Nat × List T × Bool)
  | 0, _, _, _ => none
  | n + 1, n1, l2, i3 =>
    bd (f34_s_l01Few n n1 l2) fun r4 =>
    let b5 : Bool := r4
    br (!b5) (
     some (0, [], false)) (
     bd (f36_s_l00In n i3 (1 : Int) (64 : Int)) fun r6 =>
     let b7 : Bool := r6
     br (!b7) (
      some (0, [], false)) (
      gd (decide (((0 : Int) ≤ i3) ∧ (i3 ≤ (2147483648 : Int)))) (
      let n8 : Nat := (Int.toNat i3)
      let l9 : List T := (reps (Int.toNat i3) [(T.int IntKind.i64 (0 : Int))])
      bd (f27_s_SpreadOf.l0 n n n1 l2 i3 n8 l9 (0 : Int)) fun r10 =>
      let n11 : Nat := r10.1
      let l12 : List T := r10.2
      some (n11, l12, true))))
def sg_li : Sig (Nat × List T × Int) where
  pk := fun v => [.lst v.1 v.2.1, .int v.2.2]
  up := fun ls => match ls with
    | [.lst a0 a1, .int a2] => some (a0, a1, a2)
    | _ => none
  ok := by
    intro ls v h
    split at h
    · cases h; rfl
    · cases h

def sg_lb : Sig (Nat × List T × Bool) where
  pk := fun v => [.lst v.1 v.2.1, .bool v.2.2]
  up := fun ls => match ls with
    | [.lst a0 a1, .bool a2] => some (a0, a1, a2)
    | _ => none
  ok := by
    intro ls v h
    split at h
    · cases h; rfl
    · cases h

def sg_lili : Sig (Nat × List T × Int × Nat × List T × Int) where
  pk := fun v => [.lst v.1 v.2.1, .int v.2.2.1, .lst v.2.2.2.1 v.2.2.2.2.1, .int v.2.2.2.2.2]
  up := fun ls => match ls with
    | [.lst a0 a1, .int a2, .lst a3 a4, .int a5] => some (a0, a1, a2, a3, a4, a5)
    | _ => none
  ok := by
    intro ls v h
    split at h
    · cases h; rfl
    · cases h

def f27_s_SpreadOf.l0.P : AS := ⟨[(0, .val false [.sl .shr [.leaf]] [.lst 0 []] [] 0), (1, .val false [.leaf] [.int .i64 0] [] 0), (6, .val false [.sl .own [.leaf]] [.lst 0 []] [] 0), (7, .val false [.leaf] [.int .i64 0] [] 0)], 0⟩
def f27_s_SpreadOf.l0.A : Alt (Nat × List T) := .one (.exit 0) ⟨[(6, .val false [.sl .own [.leaf]] [.lst 0 []] [] 0)], 0⟩ sg_l
def f27_s_SpreadOf.l0.F (n m : Nat) (v : Nat × List T × Int × Nat × List T × Int) := f27_s_SpreadOf.l0 n m v.1 v.2.1 v.2.2.1 v.2.2.2.1 v.2.2.2.2.1 v.2.2.2.2.2
def f27_s_SpreadOf.l0.W (n : Nat) : LpW := .of 80 f27_s_SpreadOf.l0.P sg_lili f27_s_SpreadOf.l0.A (f27_s_SpreadOf.l0.F n n)
def f27_s_SpreadOf.P : List Arg := [⟨.val, ⟨false, [.sl .shr [.leaf]], [.lst 0 []]⟩⟩, ⟨.val, ⟨false, [.leaf], [.int .i64 0]⟩⟩]
def f27_s_SpreadOf.A : RAlt (Nat × List T × Bool) := .one ⟨[⟨false, [.sl .own [.leaf]], [.lst 0 []]⟩, ⟨false, [.leaf], [.bool false]⟩], [none, none]⟩ sg_lb
def f27_s_SpreadOf.F (n : Nat) (v : Nat × List T × Int) := f27_s_SpreadOf n v.1 v.2.1 v.2.2
noncomputable def f27_s_SpreadOf.O (n : Nat) : Orc := orcOf (E := E) [f34_s_l01Few.w, f36_s_l00In.w] [f27_s_SpreadOf.l0.W n] n
theorem f27_s_SpreadOf.l0.ok (n : Nat) : LpOk (f27_s_SpreadOf.O n) E (evalFn E n) n (keepAt 27) (.loop (loopAt c27 0)) :=
  lp_pure f27_s_SpreadOf.l0.P sg_lili f27_s_SpreadOf.l0.A (f27_s_SpreadOf.l0.F n) (orcOf_cf _ _ n) (lpOk_of (bs := []) (by kernel_rfl) .nil) (fun _ => rfl) (fun _ _ => by kernel_rfl) (fun _ _ _ => by kernel_rfl)
theorem f27_s_SpreadOf.ok : ∀ n v x, f27_s_SpreadOf.F n v = some x → evalFn E n 27 (flAs f27_s_SpreadOf.P (sg_li.pk v)) = some (f27_s_SpreadOf.A.enc x) :=
  fn_pure (modes := (fdAt 27).ms) (outs := (fdAt 27).os) (results := (fdAt 27).rs) f27_s_SpreadOf.O (c := c27) (keep := keepAt 27) (by kernel_rfl) (fun n => orcOf_cf _ _ n) (fun n => lpOk_of (bs := [loopAt c27 0]) (by kernel_rfl) (.cons (f27_s_SpreadOf.l0.ok n) .nil)) (fun _ => rfl) (fun _ _ => by kernel_rfl)
noncomputable def f27_s_SpreadOf.w : FnW E := fnW 27 f27_s_SpreadOf.P sg_li f27_s_SpreadOf.A f27_s_SpreadOf.F f27_s_SpreadOf.ok

def f35_i_areSamples : Nat → Nat → List T → Option (Bool)
  | 0, _, _ => none
  | n + 1, n1, l2 =>
    some (decide (((n1 : Nat) : Int) ≤ (256 : Int)))
def f35_i_areSamples.P : List Arg := [⟨.val, ⟨false, [.sl .shr [.leaf]], [.lst 0 []]⟩⟩]
def f35_i_areSamples.A : RAlt (Bool) := .one ⟨[⟨false, [.leaf], [.bool false]⟩], [none]⟩ sg_b
def f35_i_areSamples.F (n : Nat) (v : Nat × List T) := f35_i_areSamples n v.1 v.2
noncomputable def f35_i_areSamples.O (n : Nat) : Orc := orcOf (E := E) [] [] n
theorem f35_i_areSamples.ok : ∀ n v x, f35_i_areSamples.F n v = some x → evalFn E n 35 (flAs f35_i_areSamples.P (sg_l.pk v)) = some (f35_i_areSamples.A.enc x) :=
  fn_pure (modes := (fdAt 35).ms) (outs := (fdAt 35).os) (results := (fdAt 35).rs) f35_i_areSamples.O (c := c35) (keep := keepAt 35) (by kernel_rfl) (fun n => orcOf_cf _ _ n) (fun n => lpOk_of (bs := []) (by kernel_rfl) .nil) (fun _ => rfl) (fun _ _ => by kernel_rfl)
noncomputable def f35_i_areSamples.w : FnW E := fnW 35 f35_i_areSamples.P sg_l f35_i_areSamples.A f35_i_areSamples.F f35_i_areSamples.ok

def f39_i_within : Nat → Int → Int → Int → Option (Bool)
  | 0, _, _, _ => none
  | n + 1, i1, i2, i3 =>
    br (decide (i2 ≤ i1)) (
     some (decide (i1 ≤ i3))) (
     some false)
def f39_i_within.P : List Arg := [⟨.val, ⟨false, [.leaf], [.int .i64 0]⟩⟩, ⟨.val, ⟨false, [.leaf], [.int .i64 0]⟩⟩, ⟨.val, ⟨false, [.leaf], [.int .i64 0]⟩⟩]
def f39_i_within.A : RAlt (Bool) := .one ⟨[⟨false, [.leaf], [.bool false]⟩], [none, none, none]⟩ sg_b
def f39_i_within.F (n : Nat) (v : Int × Int × Int) := f39_i_within n v.1 v.2.1 v.2.2
noncomputable def f39_i_within.O (n : Nat) : Orc := orcOf (E := E) [] [] n
theorem f39_i_within.ok : ∀ n v x, f39_i_within.F n v = some x → evalFn E n 39 (flAs f39_i_within.P (sg_iii.pk v)) = some (f39_i_within.A.enc x) :=
  fn_pure (modes := (fdAt 39).ms) (outs := (fdAt 39).os) (results := (fdAt 39).rs) f39_i_within.O (c := c39) (keep := keepAt 39) (by kernel_rfl) (fun n => orcOf_cf _ _ n) (fun n => lpOk_of (bs := []) (by kernel_rfl) .nil) (fun _ => rfl) (fun _ _ => by kernel_rfl)
noncomputable def f39_i_within.w : FnW E := fnW 39 f39_i_within.P sg_iii f39_i_within.A f39_i_within.F f39_i_within.ok

def f28_i_SpreadOf.l0 (n : Nat) : Nat → Nat → List T → Int → Nat → List T → Nat → List T → Int → Int → Option (Nat × List T)
  | 0, _, _, _, _, _, _, _, _, _ => none
  | m + 1, n1, l2, i3, n4, l5, n6, l7, i8, i9 =>
    br (decide (i9 < i8)) (
     gd ((decide (((0 : Int) ≤ i9) ∧ (i9 < ((n6 : Nat) : Int)))) && (okAt [(CK.flt FloatKind.f32)] l7 (Int.toNat i9))) (
     let x10 : Nat := (fAt l7 (Int.toNat i9))
     br (fge FloatKind.f32 x10 3212836864) (
      br (flt FloatKind.f32 x10 1065353216) (
       bd ((fltToFlt FloatKind.f32 x10 FloatKind.f64)) fun y11 =>
       bd ((fltToInt FloatKind.f64 (fmul FloatKind.f64 (fdiv FloatKind.f64 (fadd FloatKind.f64 y11 4607182418800017408) 4611686018427387904) (FloatKind.nearest FloatKind.f64 i3)) IntKind.i64)) fun y12 =>
       gd (decide (((0 : Int) ≤ y12) ∧ (y12 < ((n4 : Nat) : Int)))) (
       gd (okAt [(CK.int IntKind.i64)] l5 (Int.toNat y12)) (
       gd (decide (((0 : Int) ≤ y12) ∧ (y12 < ((n4 : Nat) : Int)))) (
       gd (Nat.ble ((Int.toNat y12) + 1) (List.length l5)) (
       let l13 : List T := (setN l5 (Int.toNat y12) [(T.int IntKind.i64 (IntKind.i64.wrap ((iAt l5 (Int.toNat y12)) + (1 : Int))))])
       f28_i_SpreadOf.l0 n m n1 l2 i3 n4 l13 n6 l7 i8 (IntKind.i64.wrap (i9 + (1 : Int)))))))) (
       f28_i_SpreadOf.l0 n m n1 l2 i3 n4 l5 n6 l7 i8 (IntKind.i64.wrap (i9 + (1 : Int))))) (
      f28_i_SpreadOf.l0 n m n1 l2 i3 n4 l5 n6 l7 i8 (IntKind.i64.wrap (i9 + (1 : Int)))))) (
     some (n4, l5))
def f28_i_SpreadOf : Nat → Nat → List T → Int → Option (Nat × List T × Bool)
  | 0, _, _, _ => none
  | n + 1, n1, l2, i3 =>
    bd (f35_i_areSamples n n1 l2) fun r4 =>
    let b5 : Bool := r4
    br (!b5) (
     some (0, [], false)) (
     bd (f39_i_within n i3 (1 : Int) (64 : Int)) fun r6 =>
     let b7 : Bool := r6
     br (!b7) (
      some (0, [], false)) (
      gd (decide (((0 : Int) ≤ i3) ∧ (i3 ≤ (2147483648 : Int)))) (
      let n8 : Nat := (Int.toNat i3)
      let l9 : List T := (reps (Int.toNat i3) [(T.int IntKind.i64 (0 : Int))])
      bd (f28_i_SpreadOf.l0 n n n1 l2 i3 n8 l9 n1 l2 ((n1 : Nat) : Int) (0 : Int)) fun r10 =>
      let n11 : Nat := r10.1
      let l12 : List T := r10.2
      some (n11, l12, true))))
def sg_lillii : Sig (Nat × List T × Int × Nat × List T × Nat × List T × Int × Int) where
  pk := fun v => [.lst v.1 v.2.1, .int v.2.2.1, .lst v.2.2.2.1 v.2.2.2.2.1, .lst v.2.2.2.2.2.1 v.2.2.2.2.2.2.1, .int v.2.2.2.2.2.2.2.1, .int v.2.2.2.2.2.2.2.2]
  up := fun ls => match ls with
    | [.lst a0 a1, .int a2, .lst a3 a4, .lst a5 a6, .int a7, .int a8] => some (a0, a1, a2, a3, a4, a5, a6, a7, a8)
    | _ => none
  ok := by
    intro ls v h
    split at h
    · cases h; rfl
    · cases h

def f28_i_SpreadOf.l0.P : AS := ⟨[(0, .val false [.sl .shr [.leaf]] [.lst 0 []] [] 0), (1, .val false [.leaf] [.int .i64 0] [] 0), (6, .val false [.sl .own [.leaf]] [.lst 0 []] [] 0), (19, .val false [.sl .shr [.leaf]] [.lst 0 []] [] 0), (20, .val false [.leaf] [.int .i64 0] [] 0), (21, .val false [.leaf] [.int .i64 0] [] 0)], 0⟩
def f28_i_SpreadOf.l0.A : Alt (Nat × List T) := .one (.exit 0) ⟨[(6, .val false [.sl .own [.leaf]] [.lst 0 []] [] 0)], 0⟩ sg_l
def f28_i_SpreadOf.l0.F (n m : Nat) (v : Nat × List T × Int × Nat × List T × Nat × List T × Int × Int) := f28_i_SpreadOf.l0 n m v.1 v.2.1 v.2.2.1 v.2.2.2.1 v.2.2.2.2.1 v.2.2.2.2.2.1 v.2.2.2.2.2.2.1 v.2.2.2.2.2.2.2.1 v.2.2.2.2.2.2.2.2
def f28_i_SpreadOf.l0.W (n : Nat) : LpW := .of 80 f28_i_SpreadOf.l0.P sg_lillii f28_i_SpreadOf.l0.A (f28_i_SpreadOf.l0.F n n)
def f28_i_SpreadOf.P : List Arg := [⟨.val, ⟨false, [.sl .shr [.leaf]], [.lst 0 []]⟩⟩, ⟨.val, ⟨false, [.leaf], [.int .i64 0]⟩⟩]
def f28_i_SpreadOf.A : RAlt (Nat × List T × Bool) := .one ⟨[⟨false, [.sl .own [.leaf]], [.lst 0 []]⟩, ⟨false, [.leaf], [.bool false]⟩], [none, none]⟩ sg_lb
def f28_i_SpreadOf.F (n : Nat) (v : Nat × List T × Int) := f28_i_SpreadOf n v.1 v.2.1 v.2.2
noncomputable def f28_i_SpreadOf.O (n : Nat) : Orc := orcOf (E := E) [f35_i_areSamples.w, f39_i_within.w] [f28_i_SpreadOf.l0.W n] n
theorem f28_i_SpreadOf.l0.ok (n : Nat) : LpOk (f28_i_SpreadOf.O n) E (evalFn E n) n (keepAt 28) (.loop (loopAt c28 0)) :=
  lp_pure f28_i_SpreadOf.l0.P sg_lillii f28_i_SpreadOf.l0.A (f28_i_SpreadOf.l0.F n) (orcOf_cf _ _ n) (lpOk_of (bs := []) (by kernel_rfl) .nil) (fun _ => rfl) (fun _ _ => by kernel_rfl) (fun _ _ _ => by kernel_rfl)
theorem f28_i_SpreadOf.ok : ∀ n v x, f28_i_SpreadOf.F n v = some x → evalFn E n 28 (flAs f28_i_SpreadOf.P (sg_li.pk v)) = some (f28_i_SpreadOf.A.enc x) :=
  fn_pure (modes := (fdAt 28).ms) (outs := (fdAt 28).os) (results := (fdAt 28).rs) f28_i_SpreadOf.O (c := c28) (keep := keepAt 28) (by kernel_rfl) (fun n => orcOf_cf _ _ n) (fun n => lpOk_of (bs := [loopAt c28 0]) (by kernel_rfl) (.cons (f28_i_SpreadOf.l0.ok n) .nil)) (fun _ => rfl) (fun _ _ => by kernel_rfl)
noncomputable def f28_i_SpreadOf.w : FnW E := fnW 28 f28_i_SpreadOf.P sg_li f28_i_SpreadOf.A f28_i_SpreadOf.F f28_i_SpreadOf.ok

def f29_l_eqInt64S.l0 (n : Nat) : Nat → Nat → List T → Nat → List T → Int → Option ((Bool) ⊕ (Unit))
  | 0, _, _, _, _, _ => none
  | m + 1, n1, l2, n3, l4, i5 =>
    br (decide (i5 < ((n1 : Nat) : Int))) (
     gd ((decide (((0 : Int) ≤ i5) ∧ (i5 < ((n1 : Nat) : Int)))) && (okAt [(CK.int IntKind.i64)] l2 (Int.toNat i5))) (
     gd ((decide (((0 : Int) ≤ i5) ∧ (i5 < ((n3 : Nat) : Int)))) && (okAt [(CK.int IntKind.i64)] l4 (Int.toNat i5))) (
     br ((iAt l2 (Int.toNat i5)) != (iAt l4 (Int.toNat i5))) (
      some (Sum.inl false)) (
      f29_l_eqInt64S.l0 n m n1 l2 n3 l4 (IntKind.i64.wrap (i5 + (1 : Int))))))) (
     some (Sum.inr ()))
def f29_l_eqInt64S : Nat → Nat → List T → Nat → List T → Option (Bool)
  | 0, _, _, _, _ => none
  | n + 1, n1, l2, n3, l4 =>
    br (((n1 : Nat) : Int) != ((n3 : Nat) : Int)) (
     some false) (
     bd (f29_l_eqInt64S.l0 n n n1 l2 n3 l4 (0 : Int)) fun r5 =>
     sm r5 (fun u6 =>
      let b7 : Bool := u6
      some b7) (fun u8 =>
      some true))
def sg_ll : Sig (Nat × List T × Nat × List T) where
  pk := fun v => [.lst v.1 v.2.1, .lst v.2.2.1 v.2.2.2]
  up := fun ls => match ls with
    | [.lst a0 a1, .lst a2 a3] => some (a0, a1, a2, a3)
    | _ => none
  ok := by
    intro ls v h
    split at h
    · cases h; rfl
    · cases h

def sg : Sig (Unit) where
  pk := fun v => []
  up := fun ls => match ls with
    | [] => some ()
    | _ => none
  ok := by
    intro ls v h
    split at h
    · cases h; rfl
    · cases h

def f29_l_eqInt64S.l0.P : AS := ⟨[(0, .val false [.sl .shr [.leaf]] [.lst 0 []] [] 0), (1, .val false [.sl .shr [.leaf]] [.lst 0 []] [] 0), (5, .val false [.leaf] [.int .i64 0] [] 0)], 0⟩
def f29_l_eqInt64S.l0.A : Alt ((Bool) ⊕ (Unit)) := .or (.one .ret ⟨[(4, .val false [.leaf] [.bool false] [] 0)], 0⟩ sg_b) (.one (.exit 0) ⟨[(4, .dead)], 0⟩ sg)
def f29_l_eqInt64S.l0.F (n m : Nat) (v : Nat × List T × Nat × List T × Int) := f29_l_eqInt64S.l0 n m v.1 v.2.1 v.2.2.1 v.2.2.2.1 v.2.2.2.2
def f29_l_eqInt64S.l0.W (n : Nat) : LpW := .of 64 f29_l_eqInt64S.l0.P sg_lli f29_l_eqInt64S.l0.A (f29_l_eqInt64S.l0.F n n)
def f29_l_eqInt64S.P : List Arg := [⟨.val, ⟨false, [.sl .shr [.leaf]], [.lst 0 []]⟩⟩, ⟨.val, ⟨false, [.sl .shr [.leaf]], [.lst 0 []]⟩⟩]
def f29_l_eqInt64S.A : RAlt (Bool) := .one ⟨[⟨false, [.leaf], [.bool false]⟩], [none, none]⟩ sg_b
def f29_l_eqInt64S.F (n : Nat) (v : Nat × List T × Nat × List T) := f29_l_eqInt64S n v.1 v.2.1 v.2.2.1 v.2.2.2
noncomputable def f29_l_eqInt64S.O (n : Nat) : Orc := orcOf (E := E) [] [f29_l_eqInt64S.l0.W n] n
theorem f29_l_eqInt64S.l0.ok (n : Nat) : LpOk (f29_l_eqInt64S.O n) E (evalFn E n) n (keepAt 29) (.loop (loopAt c29 0)) :=
  lp_pure f29_l_eqInt64S.l0.P sg_lli f29_l_eqInt64S.l0.A (f29_l_eqInt64S.l0.F n) (orcOf_cf _ _ n) (lpOk_of (bs := []) (by kernel_rfl) .nil) (fun _ => rfl) (fun _ _ => by kernel_rfl) (fun _ _ _ => by kernel_rfl)
theorem f29_l_eqInt64S.ok : ∀ n v x, f29_l_eqInt64S.F n v = some x → evalFn E n 29 (flAs f29_l_eqInt64S.P (sg_ll.pk v)) = some (f29_l_eqInt64S.A.enc x) :=
  fn_pure (modes := (fdAt 29).ms) (outs := (fdAt 29).os) (results := (fdAt 29).rs) f29_l_eqInt64S.O (c := c29) (keep := keepAt 29) (by kernel_rfl) (fun n => orcOf_cf _ _ n) (fun n => lpOk_of (bs := [loopAt c29 0]) (by kernel_rfl) (.cons (f29_l_eqInt64S.l0.ok n) .nil)) (fun _ => rfl) (fun _ _ => by kernel_rfl)
noncomputable def f29_l_eqInt64S.w : FnW E := fnW 29 f29_l_eqInt64S.P sg_ll f29_l_eqInt64S.A f29_l_eqInt64S.F f29_l_eqInt64S.ok

def f15_l_sameFloat : Nat → Nat → Nat → Option (Bool)
  | 0, _, _ => none
  | n + 1, x1, x2 =>
    br (fne FloatKind.f64 x1 x1) (
     br (fne FloatKind.f64 x1 x1) (
      some (fne FloatKind.f64 x2 x2)) (
      some false)) (
     br (fne FloatKind.f64 x2 x2) (
      br (fne FloatKind.f64 x1 x1) (
       some (fne FloatKind.f64 x2 x2)) (
       some false)) (
      br (feq FloatKind.f64 x1 0) (
       br (feq FloatKind.f64 x2 0) (
        some ((fgt FloatKind.f64 (fdiv FloatKind.f64 4607182418800017408 x1) 0) == (fgt FloatKind.f64 (fdiv FloatKind.f64 4607182418800017408 x2) 0))) (
        some (feq FloatKind.f64 x1 x2))) (
       some (feq FloatKind.f64 x1 x2))))
def sg_ff : Sig (Nat × Nat) where
  pk := fun v => [.flt v.1, .flt v.2]
  up := fun ls => match ls with
    | [.flt a0, .flt a1] => some (a0, a1)
    | _ => none
  ok := by
    intro ls v h
    split at h
    · cases h; rfl
    · cases h

def f15_l_sameFloat.P : List Arg := [⟨.val, ⟨false, [.leaf], [.flt .f64 0]⟩⟩, ⟨.val, ⟨false, [.leaf], [.flt .f64 0]⟩⟩]
def f15_l_sameFloat.A : RAlt (Bool) := .one ⟨[⟨false, [.leaf], [.bool false]⟩], [none, none]⟩ sg_b
def f15_l_sameFloat.F (n : Nat) (v : Nat × Nat) := f15_l_sameFloat n v.1 v.2
noncomputable def f15_l_sameFloat.O (n : Nat) : Orc := orcOf (E := E) [] [] n
theorem f15_l_sameFloat.ok : ∀ n v x, f15_l_sameFloat.F n v = some x → evalFn E n 15 (flAs f15_l_sameFloat.P (sg_ff.pk v)) = some (f15_l_sameFloat.A.enc x) :=
  fn_pure (modes := (fdAt 15).ms) (outs := (fdAt 15).os) (results := (fdAt 15).rs) f15_l_sameFloat.O (c := c15) (keep := keepAt 15) (by kernel_rfl) (fun n => orcOf_cf _ _ n) (fun n => lpOk_of (bs := []) (by kernel_rfl) .nil) (fun _ => rfl) (fun _ _ => by kernel_rfl)
noncomputable def f15_l_sameFloat.w : FnW E := fnW 15 f15_l_sameFloat.P sg_ff f15_l_sameFloat.A f15_l_sameFloat.F f15_l_sameFloat.ok

def f12_l_eqFloat32S.l0 (n : Nat) : Nat → Nat → List T → Nat → List T → Int → Option ((Bool) ⊕ (Unit))
  | 0, _, _, _, _, _ => none
  | m + 1, n1, l2, n3, l4, i5 =>
    br (decide (i5 < ((n1 : Nat) : Int))) (
     gd ((decide (((0 : Int) ≤ i5) ∧ (i5 < ((n1 : Nat) : Int)))) && (okAt [(CK.flt FloatKind.f32)] l2 (Int.toNat i5))) (
     bd ((fltToFlt FloatKind.f32 (fAt l2 (Int.toNat i5)) FloatKind.f64)) fun y6 =>
     gd ((decide (((0 : Int) ≤ i5) ∧ (i5 < ((n3 : Nat) : Int)))) && (okAt [(CK.flt FloatKind.f32)] l4 (Int.toNat i5))) (
     bd ((fltToFlt FloatKind.f32 (fAt l4 (Int.toNat i5)) FloatKind.f64)) fun y7 =>
     bd (f15_l_sameFloat n y6 y7) fun r8 =>
     let b9 : Bool := r8
     br (!b9) (
      some (Sum.inl false)) (
      f12_l_eqFloat32S.l0 n m n1 l2 n3 l4 (IntKind.i64.wrap (i5 + (1 : Int))))))) (
     some (Sum.inr ()))
def f12_l_eqFloat32S : Nat → Nat → List T → Nat → List T → Option (Bool)
  | 0, _, _, _, _ => none
  | n + 1, n1, l2, n3, l4 =>
    br (((n1 : Nat) : Int) != ((n3 : Nat) : Int)) (
     some false) (
     bd (f12_l_eqFloat32S.l0 n n n1 l2 n3 l4 (0 : Int)) fun r5 =>
     sm r5 (fun u6 =>
      let b7 : Bool := u6
      some b7) (fun u8 =>
      some true))
def f12_l_eqFloat32S.l0.P : AS := ⟨[(0, .val false [.sl .shr [.leaf]] [.lst 0 []] [] 0), (1, .val false [.sl .shr [.leaf]] [.lst 0 []] [] 0), (5, .val false [.leaf] [.int .i64 0] [] 0)], 0⟩
def f12_l_eqFloat32S.l0.A : Alt ((Bool) ⊕ (Unit)) := .or (.one .ret ⟨[(4, .val false [.leaf] [.bool false] [] 0)], 0⟩ sg_b) (.one (.exit 0) ⟨[(4, .dead)], 0⟩ sg)
def f12_l_eqFloat32S.l0.F (n m : Nat) (v : Nat × List T × Nat × List T × Int) := f12_l_eqFloat32S.l0 n m v.1 v.2.1 v.2.2.1 v.2.2.2.1 v.2.2.2.2
def f12_l_eqFloat32S.l0.W (n : Nat) : LpW := .of 64 f12_l_eqFloat32S.l0.P sg_lli f12_l_eqFloat32S.l0.A (f12_l_eqFloat32S.l0.F n n)
def f12_l_eqFloat32S.P : List Arg := [⟨.val, ⟨false, [.sl .shr [.leaf]], [.lst 0 []]⟩⟩, ⟨.val, ⟨false, [.sl .shr [.leaf]], [.lst 0 []]⟩⟩]
def f12_l_eqFloat32S.A : RAlt (Bool) := .one ⟨[⟨false, [.leaf], [.bool false]⟩], [none, none]⟩ sg_b
def f12_l_eqFloat32S.F (n : Nat) (v : Nat × List T × Nat × List T) := f12_l_eqFloat32S n v.1 v.2.1 v.2.2.1 v.2.2.2
noncomputable def f12_l_eqFloat32S.O (n : Nat) : Orc := orcOf (E := E) [f15_l_sameFloat.w] [f12_l_eqFloat32S.l0.W n] n
theorem f12_l_eqFloat32S.l0.ok (n : Nat) : LpOk (f12_l_eqFloat32S.O n) E (evalFn E n) n (keepAt 12) (.loop (loopAt c12 0)) :=
  lp_pure f12_l_eqFloat32S.l0.P sg_lli f12_l_eqFloat32S.l0.A (f12_l_eqFloat32S.l0.F n) (orcOf_cf _ _ n) (lpOk_of (bs := []) (by kernel_rfl) .nil) (fun _ => rfl) (fun _ _ => by kernel_rfl) (fun _ _ _ => by kernel_rfl)
theorem f12_l_eqFloat32S.ok : ∀ n v x, f12_l_eqFloat32S.F n v = some x → evalFn E n 12 (flAs f12_l_eqFloat32S.P (sg_ll.pk v)) = some (f12_l_eqFloat32S.A.enc x) :=
  fn_pure (modes := (fdAt 12).ms) (outs := (fdAt 12).os) (results := (fdAt 12).rs) f12_l_eqFloat32S.O (c := c12) (keep := keepAt 12) (by kernel_rfl) (fun n => orcOf_cf _ _ n) (fun n => lpOk_of (bs := [loopAt c12 0]) (by kernel_rfl) (.cons (f12_l_eqFloat32S.l0.ok n) .nil)) (fun _ => rfl) (fun _ _ => by kernel_rfl)
noncomputable def f12_l_eqFloat32S.w : FnW E := fnW 12 f12_l_eqFloat32S.P sg_ll f12_l_eqFloat32S.A f12_l_eqFloat32S.F f12_l_eqFloat32S.ok

def f25_l_markFloat32S.l0 (n : Nat) : Nat → Nat → List T → Int → Int → Option (Nat × List T × Int)
  | 0, _, _, _, _ => none
  | m + 1, n1, l2, i3, i4 =>
    br (decide (i4 < ((n1 : Nat) : Int))) (
     gd (decide (((0 : Int) ≤ i4) ∧ (i4 < ((n1 : Nat) : Int)))) (
     gd (Nat.ble ((Int.toNat i4) + 1) (List.length l2)) (
     let l5 : List T := (setN l2 (Int.toNat i4) [(T.flt FloatKind.f32 (FloatKind.nearest FloatKind.f32 i3))])
     let i6 : Int := (IntKind.i64.wrap (i3 + (1 : Int)))
     f25_l_markFloat32S.l0 n m n1 l5 i6 (IntKind.i64.wrap (i4 + (1 : Int)))))) (
     some (n1, l2, i3))
def f25_l_markFloat32S : Nat → Nat → List T → Int → Option (Int × Nat × List T)
  | 0, _, _, _ => none
  | n + 1, n1, l2, i3 =>
    bd (f25_l_markFloat32S.l0 n n n1 l2 i3 (0 : Int)) fun r4 =>
    let n5 : Nat := r4.1
    let l6 : List T := r4.2.1
    let i7 : Int := r4.2.2
    some (i7, n5, l6)
def sg_il : Sig (Int × Nat × List T) where
  pk := fun v => [.int v.1, .lst v.2.1 v.2.2]
  up := fun ls => match ls with
    | [.int a0, .lst a1 a2] => some (a0, a1, a2)
    | _ => none
  ok := by
    intro ls v h
    split at h
    · cases h; rfl
    · cases h

def sg_lii : Sig (Nat × List T × Int × Int) where
  pk := fun v => [.lst v.1 v.2.1, .int v.2.2.1, .int v.2.2.2]
  up := fun ls => match ls with
    | [.lst a0 a1, .int a2, .int a3] => some (a0, a1, a2, a3)
    | _ => none
  ok := by
    intro ls v h
    split at h
    · cases h; rfl
    · cases h

def f25_l_markFloat32S.l0.P : AS := ⟨[(0, .val false [.sl .own [.leaf]] [.lst 0 []] [] 1), (1, .val false [.leaf] [.int .i64 0] [] 0), (5, .val false [.leaf] [.int .i64 0] [] 0)], 0⟩
def f25_l_markFloat32S.l0.A : Alt (Nat × List T × Int) := .one (.exit 0) ⟨[(0, .val false [.sl .own [.leaf]] [.lst 0 []] [] 1), (1, .val false [.leaf] [.int .i64 0] [] 0)], 0⟩ sg_li
def f25_l_markFloat32S.l0.F (n m : Nat) (v : Nat × List T × Int × Int) := f25_l_markFloat32S.l0 n m v.1 v.2.1 v.2.2.1 v.2.2.2
def f25_l_markFloat32S.l0.W (n : Nat) : LpW := .of 32 f25_l_markFloat32S.l0.P sg_lii f25_l_markFloat32S.l0.A (f25_l_markFloat32S.l0.F n n)
def f25_l_markFloat32S.P : List Arg := [⟨.io, ⟨false, [.sl .own [.leaf]], [.lst 0 []]⟩⟩, ⟨.val, ⟨false, [.leaf], [.int .i64 0]⟩⟩]
def f25_l_markFloat32S.A : RAlt (Int × Nat × List T) := .one ⟨[⟨false, [.leaf], [.int .i64 0]⟩], [some ⟨false, [.sl .own [.leaf]], [.lst 0 []]⟩, none]⟩ sg_il
def f25_l_markFloat32S.F (n : Nat) (v : Nat × List T × Int) := f25_l_markFloat32S n v.1 v.2.1 v.2.2
noncomputable def f25_l_markFloat32S.O (n : Nat) : Orc := orcOf (E := E) [] [f25_l_markFloat32S.l0.W n] n
theorem f25_l_markFloat32S.l0.ok (n : Nat) : LpOk (f25_l_markFloat32S.O n) E (evalFn E n) n (keepAt 25) (.loop (loopAt c25 0)) :=
  lp_pure f25_l_markFloat32S.l0.P sg_lii f25_l_markFloat32S.l0.A (f25_l_markFloat32S.l0.F n) (orcOf_cf _ _ n) (lpOk_of (bs := []) (by kernel_rfl) .nil) (fun _ => rfl) (fun _ _ => by kernel_rfl) (fun _ _ _ => by kernel_rfl)
theorem f25_l_markFloat32S.ok : ∀ n v x, f25_l_markFloat32S.F n v = some x → evalFn E n 25 (flAs f25_l_markFloat32S.P (sg_li.pk v)) = some (f25_l_markFloat32S.A.enc x) :=
  fn_pure (modes := (fdAt 25).ms) (outs := (fdAt 25).os) (results := (fdAt 25).rs) f25_l_markFloat32S.O (c := c25) (keep := keepAt 25) (by kernel_rfl) (fun n => orcOf_cf _ _ n) (fun n => lpOk_of (bs := [loopAt c25 0]) (by kernel_rfl) (.cons (f25_l_markFloat32S.l0.ok n) .nil)) (fun _ => rfl) (fun _ _ => by kernel_rfl)
noncomputable def f25_l_markFloat32S.w : FnW E := fnW 25 f25_l_markFloat32S.P sg_li f25_l_markFloat32S.A f25_l_markFloat32S.F f25_l_markFloat32S.ok

def f30_l_markInt64S.l0 (n : Nat) : Nat → Nat → List T → Int → Int → Option (Nat × List T × Int)
  | 0, _, _, _, _ => none
  | m + 1, n1, l2, i3, i4 =>
    br (decide (i4 < ((n1 : Nat) : Int))) (
     gd (decide (((0 : Int) ≤ i4) ∧ (i4 < ((n1 : Nat) : Int)))) (
     gd (Nat.ble ((Int.toNat i4) + 1) (List.length l2)) (
     let l5 : List T := (setN l2 (Int.toNat i4) [(T.int IntKind.i64 i3)])
     let i6 : Int := (IntKind.i64.wrap (i3 + (1 : Int)))
     f30_l_markInt64S.l0 n m n1 l5 i6 (IntKind.i64.wrap (i4 + (1 : Int)))))) (
     some (n1, l2, i3))
def f30_l_markInt64S : Nat → Nat → List T → Int → Option (Int × Nat × List T)
  | 0, _, _, _ => none
  | n + 1, n1, l2, i3 =>
    bd (f30_l_markInt64S.l0 n n n1 l2 i3 (0 : Int)) fun r4 =>
    let n5 : Nat := r4.1
    let l6 : List T := r4.2.1
    let i7 : Int := r4.2.2
    some (i7, n5, l6)
def f30_l_markInt64S.l0.P : AS := ⟨[(0, .val false [.sl .own [.leaf]] [.lst 0 []] [] 1), (1, .val false [.leaf] [.int .i64 0] [] 0), (5, .val false [.leaf] [.int .i64 0] [] 0)], 0⟩
def f30_l_markInt64S.l0.A : Alt (Nat × List T × Int) := .one (.exit 0) ⟨[(0, .val false [.sl .own [.leaf]] [.lst 0 []] [] 1), (1, .val false [.leaf] [.int .i64 0] [] 0)], 0⟩ sg_li
def f30_l_markInt64S.l0.F (n m : Nat) (v : Nat × List T × Int × Int) := f30_l_markInt64S.l0 n m v.1 v.2.1 v.2.2.1 v.2.2.2
def f30_l_markInt64S.l0.W (n : Nat) : LpW := .of 32 f30_l_markInt64S.l0.P sg_lii f30_l_markInt64S.l0.A (f30_l_markInt64S.l0.F n n)
def f30_l_markInt64S.P : List Arg := [⟨.io, ⟨false, [.sl .own [.leaf]], [.lst 0 []]⟩⟩, ⟨.val, ⟨false, [.leaf], [.int .i64 0]⟩⟩]
def f30_l_markInt64S.A : RAlt (Int × Nat × List T) := .one ⟨[⟨false, [.leaf], [.int .i64 0]⟩], [some ⟨false, [.sl .own [.leaf]], [.lst 0 []]⟩, none]⟩ sg_il
def f30_l_markInt64S.F (n : Nat) (v : Nat × List T × Int) := f30_l_markInt64S n v.1 v.2.1 v.2.2
noncomputable def f30_l_markInt64S.O (n : Nat) : Orc := orcOf (E := E) [] [f30_l_markInt64S.l0.W n] n
theorem f30_l_markInt64S.l0.ok (n : Nat) : LpOk (f30_l_markInt64S.O n) E (evalFn E n) n (keepAt 30) (.loop (loopAt c30 0)) :=
  lp_pure f30_l_markInt64S.l0.P sg_lii f30_l_markInt64S.l0.A (f30_l_markInt64S.l0.F n) (orcOf_cf _ _ n) (lpOk_of (bs := []) (by kernel_rfl) .nil) (fun _ => rfl) (fun _ _ => by kernel_rfl) (fun _ _ _ => by kernel_rfl)
theorem f30_l_markInt64S.ok : ∀ n v x, f30_l_markInt64S.F n v = some x → evalFn E n 30 (flAs f30_l_markInt64S.P (sg_li.pk v)) = some (f30_l_markInt64S.A.enc x) :=
  fn_pure (modes := (fdAt 30).ms) (outs := (fdAt 30).os) (results := (fdAt 30).rs) f30_l_markInt64S.O (c := c30) (keep := keepAt 30) (by kernel_rfl) (fun n => orcOf_cf _ _ n) (fun n => lpOk_of (bs := [loopAt c30 0]) (by kernel_rfl) (.cons (f30_l_markInt64S.l0.ok n) .nil)) (fun _ => rfl) (fun _ _ => by kernel_rfl)
noncomputable def f30_l_markInt64S.w : FnW E := fnW 30 f30_l_markInt64S.P sg_li f30_l_markInt64S.A f30_l_markInt64S.F f30_l_markInt64S.ok

def f31_l_heldInt64S.l0 (n : Nat) : Nat → Nat → List T → Int → Int → Option ((Int) ⊕ (Int))
  | 0, _, _, _, _ => none
  | m + 1, n1, l2, i3, i4 =>
    br (decide (i4 < ((n1 : Nat) : Int))) (
     gd ((decide (((0 : Int) ≤ i4) ∧ (i4 < ((n1 : Nat) : Int)))) && (okAt [(CK.int IntKind.i64)] l2 (Int.toNat i4))) (
     br ((iAt l2 (Int.toNat i4)) != i3) (
      some (Sum.inl (-1 : Int))) (
      let i5 : Int := (IntKind.i64.wrap (i3 + (1 : Int)))
      f31_l_heldInt64S.l0 n m n1 l2 i5 (IntKind.i64.wrap (i4 + (1 : Int)))))) (
     some (Sum.inr i3))
def f31_l_heldInt64S : Nat → Nat → List T → Int → Option (Int)
  | 0, _, _, _ => none
  | n + 1, n1, l2, i3 =>
    bd (f31_l_heldInt64S.l0 n n n1 l2 i3 (0 : Int)) fun r4 =>
    sm r4 (fun u5 =>
     let i6 : Int := u5
     some i6) (fun u7 =>
     let i8 : Int := u7
     some i8)
def sg_i : Sig (Int) where
  pk := fun v => [.int v]
  up := fun ls => match ls with
    | [.int a0] => some a0
    | _ => none
  ok := by
    intro ls v h
    split at h
    · cases h; rfl
    · cases h

def f31_l_heldInt64S.l0.P : AS := ⟨[(0, .val false [.sl .shr [.leaf]] [.lst 0 []] [] 0), (1, .val false [.leaf] [.int .i64 0] [] 0), (5, .val false [.leaf] [.int .i64 0] [] 0)], 0⟩
def f31_l_heldInt64S.l0.A : Alt ((Int) ⊕ (Int)) := .or (.one .ret ⟨[(1, .dead), (4, .val false [.leaf] [.int .i64 0] [] 0)], 0⟩ sg_i) (.one (.exit 0) ⟨[(1, .val false [.leaf] [.int .i64 0] [] 0), (4, .dead)], 0⟩ sg_i)
def f31_l_heldInt64S.l0.F (n m : Nat) (v : Nat × List T × Int × Int) := f31_l_heldInt64S.l0 n m v.1 v.2.1 v.2.2.1 v.2.2.2
def f31_l_heldInt64S.l0.W (n : Nat) : LpW := .of 32 f31_l_heldInt64S.l0.P sg_lii f31_l_heldInt64S.l0.A (f31_l_heldInt64S.l0.F n n)
def f31_l_heldInt64S.P : List Arg := [⟨.val, ⟨false, [.sl .shr [.leaf]], [.lst 0 []]⟩⟩, ⟨.val, ⟨false, [.leaf], [.int .i64 0]⟩⟩]
def f31_l_heldInt64S.A : RAlt (Int) := .one ⟨[⟨false, [.leaf], [.int .i64 0]⟩], [none, none]⟩ sg_i
def f31_l_heldInt64S.F (n : Nat) (v : Nat × List T × Int) := f31_l_heldInt64S n v.1 v.2.1 v.2.2
noncomputable def f31_l_heldInt64S.O (n : Nat) : Orc := orcOf (E := E) [] [f31_l_heldInt64S.l0.W n] n
theorem f31_l_heldInt64S.l0.ok (n : Nat) : LpOk (f31_l_heldInt64S.O n) E (evalFn E n) n (keepAt 31) (.loop (loopAt c31 0)) :=
  lp_pure f31_l_heldInt64S.l0.P sg_lii f31_l_heldInt64S.l0.A (f31_l_heldInt64S.l0.F n) (orcOf_cf _ _ n) (lpOk_of (bs := []) (by kernel_rfl) .nil) (fun _ => rfl) (fun _ _ => by kernel_rfl) (fun _ _ _ => by kernel_rfl)
theorem f31_l_heldInt64S.ok : ∀ n v x, f31_l_heldInt64S.F n v = some x → evalFn E n 31 (flAs f31_l_heldInt64S.P (sg_li.pk v)) = some (f31_l_heldInt64S.A.enc x) :=
  fn_pure (modes := (fdAt 31).ms) (outs := (fdAt 31).os) (results := (fdAt 31).rs) f31_l_heldInt64S.O (c := c31) (keep := keepAt 31) (by kernel_rfl) (fun n => orcOf_cf _ _ n) (fun n => lpOk_of (bs := [loopAt c31 0]) (by kernel_rfl) (.cons (f31_l_heldInt64S.l0.ok n) .nil)) (fun _ => rfl) (fun _ _ => by kernel_rfl)
noncomputable def f31_l_heldInt64S.w : FnW E := fnW 31 f31_l_heldInt64S.P sg_li f31_l_heldInt64S.A f31_l_heldInt64S.F f31_l_heldInt64S.ok

def f7_l_FnExactSpreadOf : Nat → Nat → List T → Int → Option (Bool)
  | 0, _, _, _ => none
  | n + 1, n1, l2, i3 =>
    br (decide (((n1 : Nat) : Int) > (1048576 : Int))) (
     some true) (
     bd (f10_l_toFloat32S n n1 l2) fun r4 =>
     let n5 : Nat := r4.1
     let l6 : List T := r4.2
     bd (f27_s_SpreadOf n n5 l6 i3) fun r7 =>
     let n8 : Nat := r7.1
     let l9 : List T := r7.2.1
     let b10 : Bool := r7.2.2
     bd (f10_l_toFloat32S n n1 l2) fun r11 =>
     let n12 : Nat := r11.1
     let l13 : List T := r11.2
     bd (f28_i_SpreadOf n n12 l13 i3) fun r14 =>
     let n15 : Nat := r14.1
     let l16 : List T := r14.2.1
     let b17 : Bool := r14.2.2
     bd (f29_l_eqInt64S n n15 l16 n8 l9) fun r18 =>
     let b19 : Bool := r18
     br (!b19) (
      some false) (
      br (!(b17 == b10)) (
       some false) (
       bd (f10_l_toFloat32S n n1 l2) fun r20 =>
       let n21 : Nat := r20.1
       let l22 : List T := r20.2
       bd (f12_l_eqFloat32S n n12 l13 n21 l22) fun r23 =>
       let b24 : Bool := r23
       br (!b24) (
        some false) (
        bd (f25_l_markFloat32S n n12 l13 (1 : Int)) fun r25 =>
        let i26 : Int := r25.1
        let n27 : Nat := r25.2.1
        let l28 : List T := r25.2.2
        br (decide (i26 < (0 : Int))) (
         some false) (
         bd (f29_l_eqInt64S n n15 l16 n8 l9) fun r29 =>
         let b30 : Bool := r29
         br (!b30) (
          some false) (
          br (!(b17 == b10)) (
           some false) (
           bd (f30_l_markInt64S n n15 l16 (1 : Int)) fun r31 =>
           let i32 : Int := r31.1
           let n33 : Nat := r31.2.1
           let l34 : List T := r31.2.2
           bd (f31_l_heldInt64S n n33 l34 (1 : Int)) fun r35 =>
           let i36 : Int := r35
           br (decide (i36 < (0 : Int))) (
            some false) (
            br (i36 != i32) (
             some false) (
             bd (f10_l_toFloat32S n n1 l2) fun r37 =>
             let n38 : Nat := r37.1
             let l39 : List T := r37.2
             bd (f28_i_SpreadOf n n38 l39 i3) fun r40 =>
             let n41 : Nat := r40.1
             let l42 : List T := r40.2.1
             let b43 : Bool := r40.2.2
             bd (f29_l_eqInt64S n n41 l42 n8 l9) fun r44 =>
             let b45 : Bool := r44
             br (!b45) (
              some false) (
              br (!(b43 == b10)) (
               some false) (
               bd (f31_l_heldInt64S n n33 l34 (1 : Int)) fun r46 =>
               let i47 : Int := r46
               br (decide (i47 < (0 : Int))) (
                some false) (
                br (i47 != i32) (
                 some false) (
                 some true)))))))))))))
def f7_l_FnExactSpreadOf.P : List Arg := [⟨.val, ⟨false, [.sl .shr [.leaf]], [.lst 0 []]⟩⟩, ⟨.val, ⟨false, [.leaf], [.int .i64 0]⟩⟩]
def f7_l_FnExactSpreadOf.A : RAlt (Bool) := .one ⟨[⟨false, [.leaf], [.bool false]⟩], [none, none]⟩ sg_b
def f7_l_FnExactSpreadOf.F (n : Nat) (v : Nat × List T × Int) := f7_l_FnExactSpreadOf n v.1 v.2.1 v.2.2
noncomputable def f7_l_FnExactSpreadOf.O (n : Nat) : Orc := orcOf (E := E) [f10_l_toFloat32S.w, f27_s_SpreadOf.w, f28_i_SpreadOf.w, f29_l_eqInt64S.w, f12_l_eqFloat32S.w, f25_l_markFloat32S.w, f30_l_markInt64S.w, f31_l_heldInt64S.w] [] n
theorem f7_l_FnExactSpreadOf.ok : ∀ n v x, f7_l_FnExactSpreadOf.F n v = some x → evalFn E n 7 (flAs f7_l_FnExactSpreadOf.P (sg_li.pk v)) = some (f7_l_FnExactSpreadOf.A.enc x) :=
  fn_pure (modes := (fdAt 7).ms) (outs := (fdAt 7).os) (results := (fdAt 7).rs) f7_l_FnExactSpreadOf.O (c := c7) (keep := keepAt 7) (by kernel_rfl) (fun n => orcOf_cf _ _ n) (fun n => lpOk_of (bs := []) (by kernel_rfl) .nil) (fun _ => rfl) (fun _ _ => by kernel_rfl)
noncomputable def f7_l_FnExactSpreadOf.w : FnW E := fnW 7 f7_l_FnExactSpreadOf.P sg_li f7_l_FnExactSpreadOf.A f7_l_FnExactSpreadOf.F f7_l_FnExactSpreadOf.ok
end Go.Proofs.Ytcadjmbpmbdliaa.D
end
section
/- FnExactSpreadOf, in plain Lean. -/
namespace Go.Proofs.Ytcadjmbpmbdliaa.D
open Go Go.Desk
set_option linter.unusedVariables false
/-- a copy in single precision -/
theorem copy_loop (n : Nat) (xs : List Nat) (hx : xs.length ≤ 1048576) : ∀ (j i m : Nat) (ys : List Nat), ys.length = xs.length → i + j = xs.length → j < m →
    f10_l_toFloat32S.l0 n m xs.length (fls .f32 xs) xs.length (fls .f32 (xs.take i ++ ys.drop i)) (i : Int) = some (xs.length, fls .f32 xs) := by
  intro j
  induction j with
  | zero =>
    intro i m ys hl hi hm
    obtain ⟨m, rfl⟩ : ∃ k, m = k + 1 := ⟨m - 1, by omega⟩
    rw [f10_l_toFloat32S.l0, nlt_dec (by omega)]
    simp only [br]
    rw [List.take_of_length_le (by omega), List.drop_eq_nil_of_le (by omega), List.append_nil]
  | succ j ih =>
    intro i m ys hl hi hm
    obtain ⟨m, rfl⟩ : ∃ k, m = k + 1 := ⟨m - 1, by omega⟩
    have hlt : i < xs.length := by omega
    rw [f10_l_toFloat32S.l0, lt_dec hlt, in_dec hlt, Int.toNat_natCast, okAt_fls hlt, wrap_succ (by omega)]
    have hlen : Nat.ble (i + 1) (fls .f32 (xs.take i ++ ys.drop i)).length = true := by
      rw [Nat.ble_eq, fls_length]; simp; omega
    rw [hlen]
    simp only [br, gd, Bool.and_self]
    rw [setN_one, fAt_fls, set_fls]
    have : xs.getD i 0 = xs[i] := by simp [List.getD, hlt]
    rw [this, take_set_drop hlt hl]
    exact ih (i + 1) m ys hl (by omega) (by omega)

theorem copied (n : Nat) (xs : List Nat) (hx : xs.length ≤ 1048576) (hn : xs.length < n) : f10_l_toFloat32S (n + 1) xs.length (fls .f32 xs) = some (xs.length, fls .f32 xs) := by
  rw [f10_l_toFloat32S]
  have h := copy_loop n xs hx xs.length 0 n (List.replicate xs.length 0) (by simp) (by omega) hn
  rw [List.take_zero, List.drop_zero, List.nil_append] at h
  have e : decide ((0 : Int) ≤ ((xs.length : Nat) : Int) ∧ ((xs.length : Nat) : Int) ≤ (2147483648 : Int)) = true := by simp; omega
  rw [reps_fls, e]
  simp only [gd]
  rw [show ((0 : Nat) : Int) = 0 from rfl] at h
  rw [h]; rfl

theorem same_self (n y : Nat) : f15_l_sameFloat (n + 1) y y = some true := by
  unfold f15_l_sameFloat
  simp only [fne_feq]
  cases h : feq FloatKind.f64 y y
  · simp [br]
  · cases h0 : feq FloatKind.f64 y 0 <;> simp [br]

/-- equal to itself -/
theorem eq_loop (n : Nat) (xs : List Nat) (hx : xs.length ≤ 2147483648) : ∀ (j i m : Nat), i + j = xs.length → j < m →
    f12_l_eqFloat32S.l0 (n + 1) m xs.length (fls .f32 xs) xs.length (fls .f32 xs) (i : Int) = some (Sum.inr ()) := by
  intro j
  induction j with
  | zero =>
    intro i m hi hm
    obtain ⟨m, rfl⟩ : ∃ k, m = k + 1 := ⟨m - 1, by omega⟩
    rw [f12_l_eqFloat32S.l0, nlt_dec (by omega)]
    rfl
  | succ j ih =>
    intro i m hi hm
    obtain ⟨m, rfl⟩ : ∃ k, m = k + 1 := ⟨m - 1, by omega⟩
    have hlt : i < xs.length := by omega
    rw [f12_l_eqFloat32S.l0, lt_dec hlt, in_dec hlt, Int.toNat_natCast, okAt_fls hlt, wrap_succ (by omega), fltToFlt_wide]
    simp only [br, gd, bd, Bool.and_self, same_self, Bool.not_true]
    exact ih (i + 1) m (by omega) (by omega)

theorem eq_self (n : Nat) (xs : List Nat) (hx : xs.length ≤ 2147483648) (hn : xs.length < n + 1) : f12_l_eqFloat32S (n + 2) xs.length (fls .f32 xs) xs.length (fls .f32 xs) = some true := by
  rw [f12_l_eqFloat32S]
  have h := eq_loop n xs hx xs.length 0 (n + 1) (by omega) hn
  rw [show ((0 : Nat) : Int) = 0 from rfl] at h
  rw [h, show (((xs.length : Nat) : Int) != ((xs.length : Nat) : Int)) = false by simp]
  rfl

theorem s_in (n : Nat) (a b c : Int) : f36_s_l00In (n + 1) a b c = some (decide (b ≤ a ∧ a ≤ c)) := by
  rw [f36_s_l00In]
  by_cases h : b ≤ a <;> simp [br, h]
theorem i_in (n : Nat) (a b c : Int) : f39_i_within (n + 1) a b c = some (decide (b ≤ a ∧ a ≤ c)) := by
  rw [f39_i_within]
  by_cases h : b ≤ a <;> simp [br, h]

theorem s_few (n k : Nat) (l : List T) : f34_s_l01Few (n + 1) k l = some (decide ((k : Int) ≤ 256)) := by rw [f34_s_l01Few]
theorem i_few (n k : Nat) (l : List T) : f35_i_areSamples (n + 1) k l = some (decide ((k : Int) ≤ 256)) := by rw [f35_i_areSamples]

/-- numbers are counted into a slice -/
theorem mark32_loop (n : Nat) (xs : List Nat) (hx : xs.length ≤ 2147483648) (s : Int) (hs : 0 ≤ s) (hs' : s ≤ 1099511627776) : ∀ (j i m : Nat), i + j = xs.length → j < m →
    f25_l_markFloat32S.l0 n m xs.length (fls .f32 ((marksF .f32 s xs.length).take i ++ xs.drop i)) (s + (i : Int)) (i : Int) = some (xs.length, fls .f32 (marksF .f32 s xs.length), s + (xs.length : Int)) := by
  intro j
  induction j with
  | zero =>
    intro i m hi hm
    obtain ⟨m, rfl⟩ : ∃ k, m = k + 1 := ⟨m - 1, by omega⟩
    have hi : i = xs.length := by omega
    subst hi
    rw [f25_l_markFloat32S.l0, nlt_dec (by omega)]
    simp only [br]
    rw [List.take_of_length_le (by rw [marksF_length]; omega), List.drop_eq_nil_of_le (by omega), List.append_nil]
  | succ j ih =>
    intro i m hi hm
    obtain ⟨m, rfl⟩ : ∃ k, m = k + 1 := ⟨m - 1, by omega⟩
    have hlt : i < xs.length := by omega
    have hlt' : i < (marksF .f32 s xs.length).length := by rw [marksF_length]; exact hlt
    have hlen : Nat.ble (i + 1) (fls .f32 ((marksF .f32 s xs.length).take i ++ xs.drop i)).length = true := by
      apply le_ble
      rw [fls_length, List.length_append, List.length_take, List.length_drop, marksF_length]; omega
    rw [f25_l_markFloat32S.l0, lt_dec hlt, in_dec hlt, Int.toNat_natCast, wrap_succ (by omega), hlen]
    simp only [br, gd]
    rw [setN_one, set_fls, show IntKind.i64.wrap (s + (i : Int) + 1) = s + ((i + 1 : Nat) : Int) by rw [wrap64] <;> omega, ← marksF_at hlt', take_set_drop hlt' (by rw [marksF_length])]
    exact ih (i + 1) m (by omega) (by omega)
theorem mark32 (n : Nat) (xs : List Nat) (hx : xs.length ≤ 2147483648) (s : Int) (hs : 0 ≤ s) (hs' : s ≤ 1099511627776) (hn : xs.length < n) :
    f25_l_markFloat32S (n + 1) xs.length (fls .f32 xs) s = some (s + (xs.length : Int), xs.length, fls .f32 (marksF .f32 s xs.length)) := by
  rw [f25_l_markFloat32S]
  have h := mark32_loop n xs hx s hs hs' xs.length 0 n (by omega) hn
  rw [List.take_zero, List.drop_zero, List.nil_append, show ((0 : Nat) : Int) = 0 from rfl, Int.add_zero] at h
  rw [h]; rfl

/-- numbers are counted into a slice -/
theorem mark64_loop (n : Nat) (xs : List Int) (hx : xs.length ≤ 2147483648) (s : Int) (hs : 0 ≤ s) (hs' : s ≤ 1099511627776) : ∀ (j i m : Nat), i + j = xs.length → j < m →
    f30_l_markInt64S.l0 n m xs.length (its .i64 ((marksI s xs.length).take i ++ xs.drop i)) (s + (i : Int)) (i : Int) = some (xs.length, its .i64 (marksI s xs.length), s + (xs.length : Int)) := by
  intro j
  induction j with
  | zero =>
    intro i m hi hm
    obtain ⟨m, rfl⟩ : ∃ k, m = k + 1 := ⟨m - 1, by omega⟩
    have hi : i = xs.length := by omega
    subst hi
    rw [f30_l_markInt64S.l0, nlt_dec (by omega)]
    simp only [br]
    rw [List.take_of_length_le (by rw [marksI_length]; omega), List.drop_eq_nil_of_le (by omega), List.append_nil]
  | succ j ih =>
    intro i m hi hm
    obtain ⟨m, rfl⟩ : ∃ k, m = k + 1 := ⟨m - 1, by omega⟩
    have hlt : i < xs.length := by omega
    have hlt' : i < (marksI s xs.length).length := by rw [marksI_length]; exact hlt
    have hlen : Nat.ble (i + 1) (its .i64 ((marksI s xs.length).take i ++ xs.drop i)).length = true := by
      apply le_ble
      rw [its_length, List.length_append, List.length_take, List.length_drop, marksI_length]; omega
    rw [f30_l_markInt64S.l0, lt_dec hlt, in_dec hlt, Int.toNat_natCast, wrap_succ (by omega), hlen]
    simp only [br, gd]
    rw [setN_one, set_its, show IntKind.i64.wrap (s + (i : Int) + 1) = s + ((i + 1 : Nat) : Int) by rw [wrap64] <;> omega, ← marksI_at hlt', take_set_drop hlt' (by rw [marksI_length])]
    exact ih (i + 1) m (by omega) (by omega)
theorem mark64 (n : Nat) (xs : List Int) (hx : xs.length ≤ 2147483648) (s : Int) (hs : 0 ≤ s) (hs' : s ≤ 1099511627776) (hn : xs.length < n) :
    f30_l_markInt64S (n + 1) xs.length (its .i64 xs) s = some (s + (xs.length : Int), xs.length, its .i64 (marksI s xs.length)) := by
  rw [f30_l_markInt64S]
  have h := mark64_loop n xs hx s hs hs' xs.length 0 n (by omega) hn
  rw [List.take_zero, List.drop_zero, List.nil_append, show ((0 : Nat) : Int) = 0 from rfl, Int.add_zero] at h
  rw [h]; rfl

/-- counted numbers are held -/
theorem held64_loop (n l : Nat) (hx : l ≤ 2147483648) (s : Int) (hs : 0 ≤ s) (hs' : s ≤ 1099511627776) : ∀ (j i m : Nat), i + j = l → j < m →
    f31_l_heldInt64S.l0 n m l (its .i64 (marksI s l)) (s + (i : Int)) (i : Int) = some (Sum.inr (s + (l : Int))) := by
  intro j
  induction j with
  | zero =>
    intro i m hi hm
    obtain ⟨m, rfl⟩ : ∃ k, m = k + 1 := ⟨m - 1, by omega⟩
    have hi : i = l := by omega
    subst hi
    rw [f31_l_heldInt64S.l0, nlt_dec (by omega)]
    rfl
  | succ j ih =>
    intro i m hi hm
    obtain ⟨m, rfl⟩ : ∃ k, m = k + 1 := ⟨m - 1, by omega⟩
    have hlt : i < l := by omega
    rw [f31_l_heldInt64S.l0, lt_dec hlt, in_dec hlt, Int.toNat_natCast, wrap_succ (by omega), okAt_its (by rw [marksI_length]; exact hlt), iAt_its, marksI_get hlt, bne_self_eq_false,
      show IntKind.i64.wrap (s + (i : Int) + 1) = s + ((i + 1 : Nat) : Int) by rw [wrap64] <;> omega]
    simp only [br, gd, Bool.and_self]
    exact ih (i + 1) m (by omega) (by omega)
theorem held64 (n l : Nat) (hx : l ≤ 2147483648) (s : Int) (hs : 0 ≤ s) (hs' : s ≤ 1099511627776) (hn : l < n) :
    f31_l_heldInt64S (n + 1) l (its .i64 (marksI s l)) s = some (s + (l : Int)) := by
  rw [f31_l_heldInt64S]
  have h := held64_loop n l hx s hs hs' l 0 n (by omega) hn
  rw [show ((0 : Nat) : Int) = 0 from rfl, Int.add_zero] at h
  rw [h]; rfl

/-- whole numbers equal to themselves -/
theorem eqi_loop (n : Nat) (xs : List Int) (hx : xs.length ≤ 2147483648) : ∀ (j i m : Nat), i + j = xs.length → j < m →
    f29_l_eqInt64S.l0 n m xs.length (its .i64 xs) xs.length (its .i64 xs) (i : Int) = some (Sum.inr ()) := by
  intro j
  induction j with
  | zero =>
    intro i m hi hm
    obtain ⟨m, rfl⟩ : ∃ k, m = k + 1 := ⟨m - 1, by omega⟩
    rw [f29_l_eqInt64S.l0, nlt_dec (by omega)]
    rfl
  | succ j ih =>
    intro i m hi hm
    obtain ⟨m, rfl⟩ : ∃ k, m = k + 1 := ⟨m - 1, by omega⟩
    have hlt : i < xs.length := by omega
    rw [f29_l_eqInt64S.l0, lt_dec hlt, in_dec hlt, Int.toNat_natCast, okAt_its hlt, wrap_succ (by omega)]
    simp only [br, gd, Bool.and_self, bne_self_eq_false]
    exact ih (i + 1) m (by omega) (by omega)
theorem eqi_self (n : Nat) (xs : List Int) (hx : xs.length ≤ 2147483648) (hn : xs.length < n) : f29_l_eqInt64S (n + 1) xs.length (its .i64 xs) xs.length (its .i64 xs) = some true := by
  rw [f29_l_eqInt64S]
  have h := eqi_loop n xs hx xs.length 0 n (by omega) hn
  rw [show ((0 : Nat) : Int) = 0 from rfl] at h
  rw [h, show (((xs.length : Nat) : Int) != ((xs.length : Nat) : Int)) = false by simp]
  rfl

theorem rle_mul {a b c : Rat} (h : a ≤ b) (hc : 0 ≤ c) : a * c ≤ b * c := Rat.mul_le_mul_of_nonneg_right h hc
/-- a sample from -1 to less than 1 is in one part -/
theorem part (x p : Nat) (hp : 1 ≤ p ∧ p ≤ 64) (h1 : fge FloatKind.f32 x 3212836864 = true) (h2 : flt FloatKind.f32 x 1065353216 = true) :
    ∃ n : Nat, n < p ∧ fltToInt FloatKind.f64 (fmul FloatKind.f64 (fdiv FloatKind.f64 (fadd FloatKind.f64 (wide x) 4607182418800017408) 4611686018427387904) (FloatKind.nearest FloatKind.f64 (p : Int))) IntKind.i64 = some (n : Int) := by
  obtain ⟨v, hv, v1, v2⟩ := between_val val_neg_one32 val_one32 h1 h2
  have v3 := below_one32 hv v2
  have hw := wide_val hv
  -- the sum
  have hB : mv (2 ^ 24 - 1) (-24) + 1 = mv (2 ^ 25 - 1) (-24) := by
    have e2 : (1 : Rat) = mv (2 ^ 24) (-24) := by rw [mv_pow, show (-24 : Int) + ((24 : Nat) : Int) = 0 by decide, p2_zero]
    rw [e2, ← mv_add]
  have hr1 : Rep0 .f64 (mv (2 ^ 25 - 1) (-24)) := ⟨_, _, by decide, by decide, rfl⟩
  have hs1 : v + 1 ≤ mv (2 ^ 25 - 1) (-24) := by grind
  have hf : ∀ M E : Nat, M ≤ 2 ^ 53 → E ≤ 200 → mv M (-(E : Int)) < p2 (topE .f64) := by
    intro M E h1 _
    have : mv M (-(E : Int)) ≤ mv (2 ^ 53) (-(E : Int)) := mv_le.2 h1
    rw [mv_pow] at this
    exact rlt this (p2_lt (show -(E : Int) + ((53 : Nat) : Int) < 1024 by omega))
  obtain ⟨R1, q1, n1⟩ := add_val hw val_one64 hr1 (hf _ 24 (by decide) (by decide)) hs1 (by have := mv_nonneg (2 ^ 25 - 1) (-24); grind)
  have r1 := (n1 _ hr1.rep).1 hs1
  have r1' := (n1 0 (repZ _)).2 (by grind)
  -- half of it
  have h25 : mv (2 ^ 25 - 1) (-25) * 2 = mv (2 ^ 25 - 1) (-24) := by
    rw [show (2 : Rat) = mv 2 0 by unfold mv; rw [p2_zero, Rat.mul_one]; rfl, ← mv_mul, show (2 ^ 25 - 1) * 2 = (2 ^ 25 - 1) * 2 ^ 1 by decide, mv_shift]; rfl
  have hr2 : Rep0 .f64 (mv (2 ^ 25 - 1) (-25)) := ⟨_, _, by decide, by decide, rfl⟩
  have hd : R1 / 2 ≤ mv (2 ^ 25 - 1) (-25) := by grind
  have hd0 : 0 ≤ R1 / 2 := by grind
  obtain ⟨R2, q2, n2⟩ := div_val q1 val_two64 (by decide) hr2 (hf _ 25 (by decide) (by decide)) hd (by have := mv_nonneg (2 ^ 25 - 1) (-25); grind)
  have r2 := (n2 _ hr2.rep).1 hd
  have r2' := (n2 0 (repZ _)).2 hd0
  -- times the parts
  have hpv : Val .f64 (FloatKind.nearest .f64 (p : Int)) (p : Rat) := by
    have := int_val (k := .f64) (n := (p : Int)) (by have : 2 * FloatKind.f64.format.binade = 2 ^ 53 := by decide
                                                     omega)
    rwa [Rat.intCast_natCast] at this
  have hp0 : (0 : Rat) ≤ (p : Rat) := by exact_mod_cast Nat.zero_le p
  have hr3 : Rep0 .f64 (mv ((2 ^ 25 - 1) * p) (-25)) := ⟨_, _, by have : 2 * FloatKind.f64.format.binade = 2 ^ 53 := by decide
                                                                  omega, by decide, rfl⟩
  have hm3 : mv (2 ^ 25 - 1) (-25) * (p : Rat) = mv ((2 ^ 25 - 1) * p) (-25) := by
    rw [show (p : Rat) = mv p 0 by unfold mv; rw [p2_zero, Rat.mul_one], ← mv_mul]; rfl
  have ht : R2 * (p : Rat) ≤ mv ((2 ^ 25 - 1) * p) (-25) := by rw [← hm3]; exact rle_mul r2 hp0
  have ht0 : 0 ≤ R2 * (p : Rat) := Rat.mul_nonneg r2' hp0
  obtain ⟨R3, q3, n3⟩ := mul_val q2 hpv hr3 (hf _ 25 (by omega) (by decide)) ht (by have := mv_nonneg ((2 ^ 25 - 1) * p) (-25); grind)
  have r3 := (n3 _ hr3.rep).1 ht
  have r3' := (n3 0 (repZ _)).2 ht0
  have hlt : R3 < (p : Rat) := by
    refine rlt r3 ?_
    have e2 : (p : Rat) = mv (2 ^ 25 * p) (-25) := by
      rw [Nat.mul_comm, mv_shift, show (-25 : Int) + ((25 : Nat) : Int) = 0 by decide]; unfold mv; rw [p2_zero, Rat.mul_one]
    rw [e2, mv_lt]; omega
  obtain ⟨n, hn, h3, -⟩ := toInt_nonneg q3 r3' hlt (by omega)
  exact ⟨n, h3, hn⟩

/-- both count alike -/
theorem spread_loop (n n' : Nat) (xs : List Nat) (hx : xs.length ≤ 1048576) (p : Nat) (hp : 1 ≤ p ∧ p ≤ 64) : ∀ (j i m m' : Nat) (ys : List Int), ys.length = p → i + j = xs.length → j < m → j < m' →
    ∃ zs, zs.length = p ∧ f27_s_SpreadOf.l0 n m xs.length (fls .f32 xs) (p : Int) p (its .i64 ys) (i : Int) = some (p, its .i64 zs) ∧
      f28_i_SpreadOf.l0 n' m' xs.length (fls .f32 xs) (p : Int) p (its .i64 ys) xs.length (fls .f32 xs) (xs.length : Int) (i : Int) = some (p, its .i64 zs) := by
  intro j
  induction j with
  | zero =>
    intro i m m' ys hl hi hm hm'
    obtain ⟨m, rfl⟩ : ∃ k, m = k + 1 := ⟨m - 1, by omega⟩
    obtain ⟨m', rfl⟩ : ∃ k, m' = k + 1 := ⟨m' - 1, by omega⟩
    refine ⟨ys, hl, ?_, ?_⟩
    · rw [f27_s_SpreadOf.l0, nlt_dec (by omega)]; rfl
    · rw [f28_i_SpreadOf.l0, nlt_dec (by omega)]; rfl
  | succ j ih =>
    intro i m m' ys hl hi hm hm'
    obtain ⟨m, rfl⟩ : ∃ k, m = k + 1 := ⟨m - 1, by omega⟩
    obtain ⟨m', rfl⟩ : ∃ k, m' = k + 1 := ⟨m' - 1, by omega⟩
    have hlt : i < xs.length := by omega
    rw [f27_s_SpreadOf.l0, f28_i_SpreadOf.l0, lt_dec hlt, in_dec hlt, Int.toNat_natCast, okAt_fls hlt, wrap_succ (by omega)]
    simp only [br, gd, Bool.and_self]
    have skip := ih (i + 1) m m' ys hl (by omega) (by omega) (by omega)
    cases h1 : fge FloatKind.f32 (fAt (fls FloatKind.f32 xs) i) 3212836864
    · exact skip
    · cases h2 : flt FloatKind.f32 (fAt (fls FloatKind.f32 xs) i) 1065353216
      · exact skip
      · obtain ⟨c, hc, e⟩ := part _ p hp h1 h2
        simp only [fltToFlt_wide, bd, e]
        rw [in_dec hc, Int.toNat_natCast, okAt_its (by omega), le_ble (show c + 1 ≤ (its IntKind.i64 ys).length by rw [its_length]; omega), setN_one, set_its]
        exact ih (i + 1) m m' _ (by rw [List.length_set]; exact hl) (by omega) (by omega) (by omega)

theorem both (n n' : Nat) (xs : List Nat) (a : Int) (hn : xs.length < n) (hn' : xs.length < n') (hx : xs.length ≤ 1048576) :
    ∃ ys c, ys.length ≤ 64 ∧ f27_s_SpreadOf (n + 2) xs.length (fls .f32 xs) a = some (ys.length, its .i64 ys, c) ∧ f28_i_SpreadOf (n' + 2) xs.length (fls .f32 xs) a = some (ys.length, its .i64 ys, c) := by
  rw [f27_s_SpreadOf, f28_i_SpreadOf]
  simp only [s_few, i_few, s_in, i_in, bd]
  by_cases h0 : (xs.length : Int) ≤ 256
  case neg => rw [decide_eq_false h0]; exact ⟨[], false, by simp, rfl, rfl⟩
  rw [decide_eq_true h0]
  by_cases h1 : 1 ≤ a ∧ a ≤ 64
  case neg => rw [decide_eq_false h1]; exact ⟨[], false, by simp, rfl, rfl⟩
  rw [decide_eq_true h1, decide_eq_true (show 0 ≤ a ∧ a ≤ 2147483648 by omega)]
  obtain ⟨p, rfl⟩ := Int.eq_ofNat_of_zero_le (show 0 ≤ a by omega)
  obtain ⟨zs, hz, e1, e2⟩ := spread_loop (n + 1) (n' + 1) xs hx p (by omega) xs.length 0 (n + 1) (n' + 1) (List.replicate p 0) (by simp) (by omega) (by omega) (by omega)
  refine ⟨zs, true, by omega, ?_, ?_⟩
  · simp only [br, gd, Bool.not_true, Int.toNat_natCast, reps_its]
    have e1 : f27_s_SpreadOf.l0 (n + 1) (n + 1) xs.length (fls .f32 xs) (p : Int) p (its .i64 (List.replicate p 0)) (0 : Int) = some (p, its .i64 zs) := e1
    rw [e1, hz]
  · simp only [br, gd, Bool.not_true, Int.toNat_natCast, reps_its]
    have e2 : f28_i_SpreadOf.l0 (n' + 1) (n' + 1) xs.length (fls .f32 xs) (p : Int) p (its .i64 (List.replicate p 0)) xs.length (fls .f32 xs) (xs.length : Int) (0 : Int) = some (p, its .i64 zs) := e2
    rw [e2, hz]

theorem exact_ (xs : List Nat) (hg : ∀ x ∈ xs, GoodF .f32 x) (hl : xs.length ≤ maxLen) (a : Int) (ha : GoodI .i64 a) : ∃ n, f7_l_FnExactSpreadOf n xs.length (fls .f32 xs) a = some true := by
  refine ⟨xs.length + 600, ?_⟩
  rw [f7_l_FnExactSpreadOf]
  cases h : decide (((xs.length : Nat) : Int) > (1048576 : Int))
  · have hx : xs.length ≤ 1048576 := by simp at h; omega
    obtain ⟨ys, c, hy, h1, h2⟩ := both (xs.length + 597) (xs.length + 597) xs a (by omega) (by omega) hx
    simp only [br, copied (xs.length + 598) xs hx (by omega), bd, h1, h2, beq_self_eq_true, Bool.not_true, eq_self (xs.length + 597) xs (by omega) (by omega), eqi_self (xs.length + 598) ys (by omega) (by omega),
      mark32 (xs.length + 598) xs (by omega) 1 (by omega) (by omega) (by omega), mark64 (xs.length + 598) ys (by omega) 1 (by omega) (by omega) (by omega), held64 (xs.length + 598) ys.length (by omega) 1 (by omega) (by omega) (by omega),
      bne_self_eq_false, decide_eq_false (show ¬ ((1 : Int) + (xs.length : Int) < 0) by omega), decide_eq_false (show ¬ ((1 : Int) + (ys.length : Int) < 0) by omega)]
  · rfl
theorem law7 : ∀ args, LawArgs E Try.f7.params.toList args → ∃ N os, evalFn E N 7 args = some ⟨[⟨false, [.leaf], [.bool true]⟩], os⟩ := by
  intro args h0
  have hp : Try.f7.params.toList = [22, 2] := by kernel_rfl
  rw [hp] at h0
  obtain ⟨ts0, r0, rfl, hw0, h1⟩ := h0.cons_inv (d := ⟨false, 1, 24, [.sl .own [.leaf]], [.lst 0 []], .slc 28⟩) (by kernel_rfl)
  obtain ⟨n0, cs0, rfl, gl0, hs0⟩ := hw0.slc_inv (e := 28) (d := ⟨false, 1, 24, [.sl .own [.leaf]], [.lst 0 []], .slc 28⟩) (by kernel_rfl) rfl
  obtain ⟨a0, rfl, rfl, g0⟩ := hs0.flts (k := .f32) (d := ⟨false, 1, 4, [.leaf], [.flt .f32 0], .flt .f32⟩) (by kernel_rfl) rfl
  obtain ⟨ts1, r1, rfl, hw1, h2⟩ := h1.cons_inv (d := ⟨false, 1, 8, [.leaf], [.int .i64 0], .int .i64⟩) (by kernel_rfl)
  obtain ⟨a1, rfl, g1⟩ := hw1.int_inv (k := .i64) (d := ⟨false, 1, 8, [.leaf], [.int .i64 0], .int .i64⟩) (by kernel_rfl) rfl
  obtain rfl := h2.nil_inv
  obtain ⟨N, hN⟩ := exact_ a0 g0 gl0 a1 g1
  exact ⟨N, _, f7_l_FnExactSpreadOf.ok N (a0.length, fls .f32 a0, a1) true hN⟩


end Go.Proofs.Ytcadjmbpmbdliaa.D
end
section
/- FnExactSpreadOf holds: for every input the law returns true, and its arguments read as before. -/
namespace Go.Proofs.Ytcadjmbpmbdliaa.fnExactSpreadOf
open Go Go.ChangeShapes Go.WideShapes Go.ChangeAt Go.RowKit Go.Desk
set_option linter.unusedVariables false
theorem own : ownKnob Try.prog.godebug = none := by kernel_rfl
theorem laidOut : laidOutB Try.prog = true := by kernel_rfl
set_option maxRecDepth 100000 in
theorem lifted (os : Os) (started : os.Started) (H : Type) (enc : TypeId × Value → H) :
    ReturnsInHanded {} Try.checked os 7 .any (Rows.fnExactSpreadOfSpec.pre6 enc Try.prog Try.f7 Rows.fnExactSpreadOfRow.domain false) (Rows.fnExactSpreadOfSpec.post enc Try.prog Try.f7 false true false false) := by
  refine returnsInHanded_of_change (C := Try.checked) own started (by kernel_rfl) Try.func7
    (ChangeSpec.witness6 (enc := enc) (C := Try.checked) false ⟨#[], #[.slice none 0 0, .int .i64 0], []⟩ 8 (by kernel_rfl) (by kernel_rfl) (by kernel_rfl) (by kernel_rfl)) ?_
  intro W base args ds gs before hval hW hcnd _
  exact law_contract (c := D.c7) Try.checked.mixed D.tysOk D.fnOk Try.func7 (by kernel_rfl) (by kernel_rfl) (by kernel_rfl) Try.underlying4 rfl
    (fun ds h => by
      rw [show Try.f7.params.toList.length = 2 by kernel_rfl] at h
      match ds, h with
      | [_, _], _ => rfl)
    laidOut (N := 8) (by kernel_rfl) (by kernel_rfl) D.law7 hval hW
theorem over : Rows.fnExactSpreadOfRow.holds Try.pinned (OpenSpec.ofChange Rows.fnExactSpreadOfSpec) :=
  OpenClaim.holds_of_wide 7 Try.f7 rfl rfl rfl rfl rfl rfl rfl ⟨rfl, rfl, rfl, rfl, rfl⟩ rfl rfl rfl rfl rfl (by kernel_rfl) Try.func7 (by kernel_rfl)
    (of_decide_eq_true (by kernel_rfl)) (by unfold Func.isWrapper; first | (rw [if_pos (by decide +kernel)]; kernel_rfl) | (rw [if_neg (by decide +kernel)]; exact ⟨rfl, rfl⟩))
    (fun os started H enc _ => lifted os started H enc)
theorem proved : Rows.FnExactSpreadOfSaid := over
#print axioms proved
end Go.Proofs.Ytcadjmbpmbdliaa.fnExactSpreadOf
namespace Go.Proofs.Ytcadjmbpmbdliaa
/-- The row, under a short name, for the claim. -/
theorem fnExactSpreadOf_holds : Rows.FnExactSpreadOfSaid := fnExactSpreadOf.proved
end Go.Proofs.Ytcadjmbpmbdliaa
end
