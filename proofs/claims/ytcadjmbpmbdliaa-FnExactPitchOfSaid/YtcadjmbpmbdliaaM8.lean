/- FnExactPitchOf holds: for every input the law returns true, and its arguments read as before. -/
import Derived.Test.YtcadjmbpmbdliaaChecked
import Derived.Test.YtcadjmbpmbdliaaDeskD
import Derived.KernelRfl
import Derived.Test.YtcadjmbpmbdliaaRows
import Derived.WalkKit
import Derived.ProofKit
import Derived.OpenShut
import Derived.ShutString
import Derived.ChangeOld
import Derived.Below
import Derived.SizedLaws
set_option linter.all false
section
/- The tables of the reading: types and functions of the translation, with what is kept at each region's beginning (written by a program of this workplace). -/
namespace Go.Proofs.Ytcadjmbpmbdliaa.D
open Go Go.Desk
def bodyOf (f : Func) : Code := match f.body with
  | some c => c
  | none => .skip
def tyTab : List (Nat × TD) := [
  (2, ⟨false, 1, 8, [.leaf], [.int .i64 0], .int .i64⟩),
  (3, ⟨false, 1, 8, [.leaf], [.int .i64 0], .int .i64⟩),
  (4, ⟨false, 1, 1, [.leaf], [.bool false], .bool⟩),
  (22, ⟨false, 1, 24, [.sl .own [.leaf]], [.lst 0 []], .slc 28⟩),
  (28, ⟨false, 1, 4, [.leaf], [.flt .f32 0], .flt .f32⟩),
  (32, ⟨false, 1, 8, [.leaf], [.flt .f64 0], .flt .f64⟩)]
noncomputable def c8 : Code := bodyOf Try.f8
noncomputable def c10 : Code := bodyOf Try.f10
noncomputable def c12 : Code := bodyOf Try.f12
noncomputable def c15 : Code := bodyOf Try.f15
noncomputable def c32 : Code := bodyOf Try.f32
noncomputable def c33 : Code := bodyOf Try.f33
noncomputable def c34 : Code := bodyOf Try.f34
noncomputable def c35 : Code := bodyOf Try.f35
noncomputable def c36 : Code := bodyOf Try.f36
noncomputable def c37 : Code := bodyOf Try.f37
noncomputable def c38 : Code := bodyOf Try.f38
noncomputable def c39 : Code := bodyOf Try.f39
noncomputable def c40 : Code := bodyOf Try.f40
noncomputable def c52 : Code := bodyOf Try.f52
noncomputable def c53 : Code := bodyOf Try.f53
noncomputable def fnTab : List (Nat × FD) := [
  (8, .code c8 [.val, .val, .val] [] [(6, none)] [(0, [0, 1, 2]), (1, [0, 1, 2]), (2, []), (3, [0, 1, 2]), (4, [0, 1, 2, 7, 8, 9]), (5, [0, 1, 2, 7, 8, 9, 10]), (6, [0, 7, 8, 9, 10, 11, 12, 13]), (7, []), (8, [0, 10]), (9, []), (10, [])]),
  (10, .code c10 [.val] [] [(2, none)] [(0, [0]), (1, [0]), (2, [0, 3]), (3, [0, 3, 4]), (4, [0, 3, 4]), (5, [0, 3, 4]), (6, [3]), (1000003, [3])]),
  (12, .code c12 [.val, .val] [] [(4, none)] [(0, [0, 1]), (1, [0, 1]), (2, []), (3, [0, 1]), (4, [0, 1, 5]), (5, [0, 1, 5]), (6, [0, 1, 5]), (7, []), (8, []), (1000004, [4])]),
  (15, .code c15 [.val, .val] [] [(4, none)] [(0, [0, 1]), (1, [0, 1]), (2, [0, 1]), (3, [0, 1]), (4, [0, 1]), (5, [0, 1])]),
  (32, .code c32 [.val, .val, .val] [] [(6, none), (7, none), (8, none)] [(0, [0, 1, 2]), (1, [0, 1, 2]), (2, [0, 1, 2, 9]), (3, []), (4, [0, 1, 2, 9]), (5, [0, 1, 2, 9, 10]), (6, [0, 1, 2, 9, 10, 11]), (7, [0, 2, 9, 10, 11, 12]), (8, [0, 2, 9, 10, 11, 12]), (9, [0, 2, 9, 10, 11, 12]), (10, [0, 2, 9, 10, 11, 12, 13]), (11, [0, 2, 9, 12, 13]), (12, [0, 2, 9, 10, 12, 13]), (13, [10, 11]), (1000007, [10, 11])]),
  (33, .code c33 [.val, .val, .val] [] [(6, none), (7, none), (8, none)] [(0, [0, 1, 2]), (1, [0, 1, 2]), (2, [0, 1, 2, 9]), (3, []), (4, [0, 1, 2, 9]), (5, [0, 1, 2, 9, 10, 11]), (6, [0, 2, 9, 10, 11, 12]), (7, [0, 2, 9, 10, 11, 12]), (8, [0, 2, 9, 10, 11, 12]), (9, [0, 2, 9, 10, 11, 12, 13]), (10, [0, 2, 9, 12, 13]), (11, [10, 11]), (12, []), (13, [10, 11]), (1000006, [10, 11])]),
  (34, .code c34 [.val] [] [(2, none)] [(0, [0]), (1, [0])]),
  (35, .code c35 [.val] [] [(2, none)] [(0, [0]), (1, [0])]),
  (36, .code c36 [.val, .val, .val] [] [(6, none)] [(0, [0, 1, 2]), (1, [0, 1, 2])]),
  (37, .code c37 [.val, .val, .val] [] [(6, none)] [(0, [0, 1, 2]), (1, [0, 1, 2]), (2, [0, 1, 2, 7]), (3, [0, 1, 2, 7, 8]), (4, [0, 1, 2, 7, 8]), (5, [0, 1, 2, 7, 8]), (6, [7]), (1000003, [7])]),
  (38, .code c38 [.val] [] [(2, none)] [(0, [0]), (1, [0])]),
  (39, .code c39 [.val, .val, .val] [] [(6, none)] [(0, [0, 1, 2]), (1, [0, 1, 2])]),
  (40, .code c40 [.val, .val, .val] [] [(6, none)] [(0, [0, 1, 2]), (1, [0, 1, 2]), (2, [0, 1, 2, 7]), (3, [0, 1, 2, 7, 8]), (4, [0, 1, 2, 7, 8]), (5, [0, 1, 2, 7, 8]), (6, [7]), (1000003, [7])]),
  (52, .code c52 [.val, .val] [] [(4, none)] [(0, [0, 1]), (1, [0, 1]), (2, [0, 1, 5]), (3, [0, 1, 5, 8, 9]), (4, [0, 1, 5, 8, 9]), (5, [0, 1, 5, 6, 8, 9]), (6, [0, 1, 5, 8, 9]), (7, [5]), (1000003, [5])]),
  (53, .code c53 [.val, .val] [] [(4, none)] [(0, [0, 1]), (1, [0, 1]), (2, [0, 1, 5]), (3, [0, 1, 5, 6]), (4, [0, 1, 5, 6]), (5, [0, 1, 5, 6]), (6, [5]), (1000003, [5])])]
noncomputable def E : Env := ⟨fun t => lookT tyTab t, lookF fnTab⟩
noncomputable def fdAt (n : Nat) : FD := match lookF fnTab n with
  | some d => d
  | none => .ext fun _ => none
noncomputable def keepAt (n : Nat) : List (Nat × List Nat) := match lookF fnTab n with
  | some d => d.keep
  | none => []
theorem tysOk : TysOk Try.prog E := tysOk_of (l := tyTab) (fun _ => rfl) (by kernel_rfl)
theorem ft8 : FnTab Try.prog E 8 (fdAt 8) := fnTab_code (c := c8) (modes := (fdAt 8).ms) (outs := (fdAt 8).os) (results := (fdAt 8).rs) (keep := (fdAt 8).keep) Try.func8 (by kernel_rfl) (by kernel_rfl) (by kernel_rfl)
theorem ft10 : FnTab Try.prog E 10 (fdAt 10) := fnTab_code (c := c10) (modes := (fdAt 10).ms) (outs := (fdAt 10).os) (results := (fdAt 10).rs) (keep := (fdAt 10).keep) Try.func10 (by kernel_rfl) (by kernel_rfl) (by kernel_rfl)
theorem ft12 : FnTab Try.prog E 12 (fdAt 12) := fnTab_code (c := c12) (modes := (fdAt 12).ms) (outs := (fdAt 12).os) (results := (fdAt 12).rs) (keep := (fdAt 12).keep) Try.func12 (by kernel_rfl) (by kernel_rfl) (by kernel_rfl)
theorem ft15 : FnTab Try.prog E 15 (fdAt 15) := fnTab_code (c := c15) (modes := (fdAt 15).ms) (outs := (fdAt 15).os) (results := (fdAt 15).rs) (keep := (fdAt 15).keep) Try.func15 (by kernel_rfl) (by kernel_rfl) (by kernel_rfl)
theorem ft32 : FnTab Try.prog E 32 (fdAt 32) := fnTab_code (c := c32) (modes := (fdAt 32).ms) (outs := (fdAt 32).os) (results := (fdAt 32).rs) (keep := (fdAt 32).keep) Try.func32 (by kernel_rfl) (by kernel_rfl) (by kernel_rfl)
theorem ft33 : FnTab Try.prog E 33 (fdAt 33) := fnTab_code (c := c33) (modes := (fdAt 33).ms) (outs := (fdAt 33).os) (results := (fdAt 33).rs) (keep := (fdAt 33).keep) Try.func33 (by kernel_rfl) (by kernel_rfl) (by kernel_rfl)
theorem ft34 : FnTab Try.prog E 34 (fdAt 34) := fnTab_code (c := c34) (modes := (fdAt 34).ms) (outs := (fdAt 34).os) (results := (fdAt 34).rs) (keep := (fdAt 34).keep) Try.func34 (by kernel_rfl) (by kernel_rfl) (by kernel_rfl)
theorem ft35 : FnTab Try.prog E 35 (fdAt 35) := fnTab_code (c := c35) (modes := (fdAt 35).ms) (outs := (fdAt 35).os) (results := (fdAt 35).rs) (keep := (fdAt 35).keep) Try.func35 (by kernel_rfl) (by kernel_rfl) (by kernel_rfl)
theorem ft36 : FnTab Try.prog E 36 (fdAt 36) := fnTab_code (c := c36) (modes := (fdAt 36).ms) (outs := (fdAt 36).os) (results := (fdAt 36).rs) (keep := (fdAt 36).keep) Try.func36 (by kernel_rfl) (by kernel_rfl) (by kernel_rfl)
theorem ft37 : FnTab Try.prog E 37 (fdAt 37) := fnTab_code (c := c37) (modes := (fdAt 37).ms) (outs := (fdAt 37).os) (results := (fdAt 37).rs) (keep := (fdAt 37).keep) Try.func37 (by kernel_rfl) (by kernel_rfl) (by kernel_rfl)
theorem ft38 : FnTab Try.prog E 38 (fdAt 38) := fnTab_code (c := c38) (modes := (fdAt 38).ms) (outs := (fdAt 38).os) (results := (fdAt 38).rs) (keep := (fdAt 38).keep) Try.func38 (by kernel_rfl) (by kernel_rfl) (by kernel_rfl)
theorem ft39 : FnTab Try.prog E 39 (fdAt 39) := fnTab_code (c := c39) (modes := (fdAt 39).ms) (outs := (fdAt 39).os) (results := (fdAt 39).rs) (keep := (fdAt 39).keep) Try.func39 (by kernel_rfl) (by kernel_rfl) (by kernel_rfl)
theorem ft40 : FnTab Try.prog E 40 (fdAt 40) := fnTab_code (c := c40) (modes := (fdAt 40).ms) (outs := (fdAt 40).os) (results := (fdAt 40).rs) (keep := (fdAt 40).keep) Try.func40 (by kernel_rfl) (by kernel_rfl) (by kernel_rfl)
theorem ft52 : FnTab Try.prog E 52 (fdAt 52) := fnTab_code (c := c52) (modes := (fdAt 52).ms) (outs := (fdAt 52).os) (results := (fdAt 52).rs) (keep := (fdAt 52).keep) Try.func52 (by kernel_rfl) (by kernel_rfl) (by kernel_rfl)
theorem ft53 : FnTab Try.prog E 53 (fdAt 53) := fnTab_code (c := c53) (modes := (fdAt 53).ms) (outs := (fdAt 53).os) (results := (fdAt 53).rs) (keep := (fdAt 53).keep) Try.func53 (by kernel_rfl) (by kernel_rfl) (by kernel_rfl)
theorem allFns : AllFns Try.prog E fnTab := .cons ft8 (.cons ft10 (.cons ft12 (.cons ft15 (.cons ft32 (.cons ft33 (.cons ft34 (.cons ft35 (.cons ft36 (.cons ft37 (.cons ft38 (.cons ft39 (.cons ft40 (.cons ft52 (.cons ft53 (.nil)))))))))))))))
theorem fnOk : ∀ f fd, E.fn f = some fd → FnTab Try.prog E f fd := fnTab_of (l := fnTab) (fun _ => rfl) allFns
end Go.Proofs.Ytcadjmbpmbdliaa.D
end
section
/- Plain functions for the law's Go functions, each tied to the reading by the kernel (printed by a program of this workplace). -/
namespace Go.Proofs.Ytcadjmbpmbdliaa.D
open Go Go.Desk
set_option linter.unusedVariables false
def f10_l_toFloat32S.l0 (n : Nat) : Nat → Nat → List T → Nat → List T → Int → Option (Nat × List T)
  | 0, _, _, _, _, _ => none
  | m + 1, n1, l2, n3, l4, i5 =>
    br (decide (i5 < ((n1 : Nat) : Int))) (
     gd ((decide (((0 : Int) ≤ i5) ∧ (i5 < ((n1 : Nat) : Int)))) && (okAt [(CK.flt FloatKind.f32)] l2 (Int.toNat i5))) (
     gd (decide (((0 : Int) ≤ i5) ∧ (i5 < ((n3 : Nat) : Int)))) (
     gd (Nat.ble ((Int.toNat i5) + 1) (List.length l4)) (
     let l6 : List T := (setN l4 (Int.toNat i5) [(T.flt FloatKind.f32 (fAt l2 (Int.toNat i5)))])
     f10_l_toFloat32S.l0 n m n1 l2 n3 l6 (IntKind.i64.wrap (i5 + (1 : Int))))))) (
     some (n3, l4))
def f10_l_toFloat32S : Nat → Nat → List T → Option (Nat × List T)
  | 0, _, _ => none
  | n + 1, n1, l2 =>
    gd (decide (((0 : Int) ≤ ((n1 : Nat) : Int)) ∧ (((n1 : Nat) : Int) ≤ (2147483648 : Int)))) (
    let l3 : List T := (reps n1 [(T.flt FloatKind.f32 0)])
    bd (f10_l_toFloat32S.l0 n n n1 l2 n1 l3 (0 : Int)) fun r4 =>
    let n5 : Nat := r4.1
    let l6 : List T := r4.2
    some (n5, l6))
def sg_l : Sig (Nat × List T) where
  pk := fun v => [.lst v.1 v.2]
  up := fun ls => match ls with
    | [.lst a0 a1] => some (a0, a1)
    | _ => none
  ok := by
    intro ls v h
    split at h
    · cases h; rfl
    · cases h

def sg_lli : Sig (Nat × List T × Nat × List T × Int) where
  pk := fun v => [.lst v.1 v.2.1, .lst v.2.2.1 v.2.2.2.1, .int v.2.2.2.2]
  up := fun ls => match ls with
    | [.lst a0 a1, .lst a2 a3, .int a4] => some (a0, a1, a2, a3, a4)
    | _ => none
  ok := by
    intro ls v h
    split at h
    · cases h; rfl
    · cases h

def f10_l_toFloat32S.l0.P : AS := ⟨[(0, .val false [.sl .shr [.leaf]] [.lst 0 []] [] 0), (3, .val false [.sl .own [.leaf]] [.lst 0 []] [] 0), (4, .val false [.leaf] [.int .i64 0] [] 0)], 0⟩
def f10_l_toFloat32S.l0.A : Alt (Nat × List T) := .one (.exit 0) ⟨[(3, .val false [.sl .own [.leaf]] [.lst 0 []] [] 0)], 0⟩ sg_l
def f10_l_toFloat32S.l0.F (n m : Nat) (v : Nat × List T × Nat × List T × Int) := f10_l_toFloat32S.l0 n m v.1 v.2.1 v.2.2.1 v.2.2.2.1 v.2.2.2.2
def f10_l_toFloat32S.l0.W (n : Nat) : LpW := .of 48 f10_l_toFloat32S.l0.P sg_lli f10_l_toFloat32S.l0.A (f10_l_toFloat32S.l0.F n n)
def f10_l_toFloat32S.P : List Arg := [⟨.val, ⟨false, [.sl .shr [.leaf]], [.lst 0 []]⟩⟩]
def f10_l_toFloat32S.A : RAlt (Nat × List T) := .one ⟨[⟨false, [.sl .own [.leaf]], [.lst 0 []]⟩], [none]⟩ sg_l
def f10_l_toFloat32S.F (n : Nat) (v : Nat × List T) := f10_l_toFloat32S n v.1 v.2
noncomputable def f10_l_toFloat32S.O (n : Nat) : Orc := orcOf (E := E) [] [f10_l_toFloat32S.l0.W n] n
theorem f10_l_toFloat32S.l0.ok (n : Nat) : LpOk (f10_l_toFloat32S.O n) E (evalFn E n) n (keepAt 10) (.loop (loopAt c10 0)) :=
  lp_pure f10_l_toFloat32S.l0.P sg_lli f10_l_toFloat32S.l0.A (f10_l_toFloat32S.l0.F n) (orcOf_cf _ _ n) (lpOk_of (bs := []) (by kernel_rfl) .nil) (fun _ => rfl) (fun _ _ => by kernel_rfl) (fun _ _ _ => by kernel_rfl)
theorem f10_l_toFloat32S.ok : ∀ n v x, f10_l_toFloat32S.F n v = some x → evalFn E n 10 (flAs f10_l_toFloat32S.P (sg_l.pk v)) = some (f10_l_toFloat32S.A.enc x) :=
  fn_pure (modes := (fdAt 10).ms) (outs := (fdAt 10).os) (results := (fdAt 10).rs) f10_l_toFloat32S.O (c := c10) (keep := keepAt 10) (by kernel_rfl) (fun n => orcOf_cf _ _ n) (fun n => lpOk_of (bs := [loopAt c10 0]) (by kernel_rfl) (.cons (f10_l_toFloat32S.l0.ok n) .nil)) (fun _ => rfl) (fun _ _ => by kernel_rfl)
noncomputable def f10_l_toFloat32S.w : FnW E := fnW 10 f10_l_toFloat32S.P sg_l f10_l_toFloat32S.A f10_l_toFloat32S.F f10_l_toFloat32S.ok

def f34_s_l01Few : Nat → Nat → List T → Option (Bool)
  | 0, _, _ => none
  | n + 1, n1, l2 =>
    some (decide (((n1 : Nat) : Int) ≤ (256 : Int)))
def sg_b : Sig (Bool) where
  pk := fun v => [.bool v]
  up := fun ls => match ls with
    | [.bool a0] => some a0
    | _ => none
  ok := by
    intro ls v h
    split at h
    · cases h; rfl
    · cases h

def f34_s_l01Few.P : List Arg := [⟨.val, ⟨false, [.sl .shr [.leaf]], [.lst 0 []]⟩⟩]
def f34_s_l01Few.A : RAlt (Bool) := .one ⟨[⟨false, [.leaf], [.bool false]⟩], [none]⟩ sg_b
def f34_s_l01Few.F (n : Nat) (v : Nat × List T) := f34_s_l01Few n v.1 v.2
noncomputable def f34_s_l01Few.O (n : Nat) : Orc := orcOf (E := E) [] [] n
theorem f34_s_l01Few.ok : ∀ n v x, f34_s_l01Few.F n v = some x → evalFn E n 34 (flAs f34_s_l01Few.P (sg_l.pk v)) = some (f34_s_l01Few.A.enc x) :=
  fn_pure (modes := (fdAt 34).ms) (outs := (fdAt 34).os) (results := (fdAt 34).rs) f34_s_l01Few.O (c := c34) (keep := keepAt 34) (by kernel_rfl) (fun n => orcOf_cf _ _ n) (fun n => lpOk_of (bs := []) (by kernel_rfl) .nil) (fun _ => rfl) (fun _ _ => by kernel_rfl)
noncomputable def f34_s_l01Few.w : FnW E := fnW 34 f34_s_l01Few.P sg_l f34_s_l01Few.A f34_s_l01Few.F f34_s_l01Few.ok

def f36_s_l00In : Nat → Int → Int → Int → Option (Bool)
  | 0, _, _, _ => none
  | n + 1, i1, i2, i3 =>
    br (decide (i1 ≥ i2)) (
     some (decide (i1 ≤ i3))) (
     some false)
def sg_iii : Sig (Int × Int × Int) where
  pk := fun v => [.int v.1, .int v.2.1, .int v.2.2]
  up := fun ls => match ls with
    | [.int a0, .int a1, .int a2] => some (a0, a1, a2)
    | _ => none
  ok := by
    intro ls v h
    split at h
    · cases h; rfl
    · cases h

def f36_s_l00In.P : List Arg := [⟨.val, ⟨false, [.leaf], [.int .i64 0]⟩⟩, ⟨.val, ⟨false, [.leaf], [.int .i64 0]⟩⟩, ⟨.val, ⟨false, [.leaf], [.int .i64 0]⟩⟩]
def f36_s_l00In.A : RAlt (Bool) := .one ⟨[⟨false, [.leaf], [.bool false]⟩], [none, none, none]⟩ sg_b
def f36_s_l00In.F (n : Nat) (v : Int × Int × Int) := f36_s_l00In n v.1 v.2.1 v.2.2
noncomputable def f36_s_l00In.O (n : Nat) : Orc := orcOf (E := E) [] [] n
theorem f36_s_l00In.ok : ∀ n v x, f36_s_l00In.F n v = some x → evalFn E n 36 (flAs f36_s_l00In.P (sg_iii.pk v)) = some (f36_s_l00In.A.enc x) :=
  fn_pure (modes := (fdAt 36).ms) (outs := (fdAt 36).os) (results := (fdAt 36).rs) f36_s_l00In.O (c := c36) (keep := keepAt 36) (by kernel_rfl) (fun n => orcOf_cf _ _ n) (fun n => lpOk_of (bs := []) (by kernel_rfl) .nil) (fun _ => rfl) (fun _ _ => by kernel_rfl)
noncomputable def f36_s_l00In.w : FnW E := fnW 36 f36_s_l00In.P sg_iii f36_s_l00In.A f36_s_l00In.F f36_s_l00In.ok

def f37_s_l10Lag.l0 (n : Nat) : Nat → Nat → List T → Int → Int → Nat → List T → Int → Option (Nat × List T)
  | 0, _, _, _, _, _, _, _ => none
  | m + 1, n1, l2, i3, i4, n5, l6, i7 =>
    br (decide (i7 < i4)) (
     gd ((decide (((0 : Int) ≤ i7) ∧ (i7 < ((n1 : Nat) : Int)))) && (okAt [(CK.flt FloatKind.f32)] l2 (Int.toNat i7))) (
     gd ((decide (((0 : Int) ≤ (IntKind.i64.wrap (i7 + i3))) ∧ ((IntKind.i64.wrap (i7 + i3)) < ((n1 : Nat) : Int)))) && (okAt [(CK.flt FloatKind.f32)] l2 (Int.toNat (IntKind.i64.wrap (i7 + i3))))) (
     gd (Nat.ble (n5 + 1) 2147483648) (
     let n8 : Nat := (n5 + 1)
     let l9 : List T := (l6 ++ (setN (reps 1 [(T.flt FloatKind.f32 0)]) 0 [(T.flt FloatKind.f32 (fsub FloatKind.f32 (fAt l2 (Int.toNat i7)) (fAt l2 (Int.toNat (IntKind.i64.wrap (i7 + i3))))))]))
     f37_s_l10Lag.l0 n m n1 l2 i3 i4 n8 l9 (IntKind.i64.wrap (i7 + (1 : Int))))))) (
     some (n5, l6))
def f53_s_l01Dot.l0 (n : Nat) : Nat → Nat → List T → Nat → List T → Nat → Int → Option (Nat)
  | 0, _, _, _, _, _, _ => none
  | m + 1, n1, l2, n3, l4, x5, i6 =>
    br (decide (i6 < ((n1 : Nat) : Int))) (
     gd ((decide (((0 : Int) ≤ i6) ∧ (i6 < ((n1 : Nat) : Int)))) && (okAt [(CK.flt FloatKind.f32)] l2 (Int.toNat i6))) (
     gd ((decide (((0 : Int) ≤ i6) ∧ (i6 < ((n3 : Nat) : Int)))) && (okAt [(CK.flt FloatKind.f32)] l4 (Int.toNat i6))) (
     let x7 : Nat := (fadd FloatKind.f32 x5 (fmul FloatKind.f32 (fAt l2 (Int.toNat i6)) (fAt l4 (Int.toNat i6))))
     f53_s_l01Dot.l0 n m n1 l2 n3 l4 x7 (IntKind.i64.wrap (i6 + (1 : Int)))))) (
     some x5)
def f53_s_l01Dot : Nat → Nat → List T → Nat → List T → Option (Nat)
  | 0, _, _, _, _ => none
  | n + 1, n1, l2, n3, l4 =>
    bd (f53_s_l01Dot.l0 n n n1 l2 n3 l4 0 (0 : Int)) fun r5 =>
    let x6 : Nat := r5
    some x6
def sg_ll : Sig (Nat × List T × Nat × List T) where
  pk := fun v => [.lst v.1 v.2.1, .lst v.2.2.1 v.2.2.2]
  up := fun ls => match ls with
    | [.lst a0 a1, .lst a2 a3] => some (a0, a1, a2, a3)
    | _ => none
  ok := by
    intro ls v h
    split at h
    · cases h; rfl
    · cases h

def sg_f : Sig (Nat) where
  pk := fun v => [.flt v]
  up := fun ls => match ls with
    | [.flt a0] => some a0
    | _ => none
  ok := by
    intro ls v h
    split at h
    · cases h; rfl
    · cases h

def sg_llfi : Sig (Nat × List T × Nat × List T × Nat × Int) where
  pk := fun v => [.lst v.1 v.2.1, .lst v.2.2.1 v.2.2.2.1, .flt v.2.2.2.2.1, .int v.2.2.2.2.2]
  up := fun ls => match ls with
    | [.lst a0 a1, .lst a2 a3, .flt a4, .int a5] => some (a0, a1, a2, a3, a4, a5)
    | _ => none
  ok := by
    intro ls v h
    split at h
    · cases h; rfl
    · cases h

def f53_s_l01Dot.l0.P : AS := ⟨[(0, .val false [.sl .shr [.leaf]] [.lst 0 []] [] 0), (1, .val false [.sl .shr [.leaf]] [.lst 0 []] [] 0), (5, .val false [.leaf] [.flt .f32 0] [] 0), (6, .val false [.leaf] [.int .i64 0] [] 0)], 0⟩
def f53_s_l01Dot.l0.A : Alt (Nat) := .one (.exit 0) ⟨[(5, .val false [.leaf] [.flt .f32 0] [] 0)], 0⟩ sg_f
def f53_s_l01Dot.l0.F (n m : Nat) (v : Nat × List T × Nat × List T × Nat × Int) := f53_s_l01Dot.l0 n m v.1 v.2.1 v.2.2.1 v.2.2.2.1 v.2.2.2.2.1 v.2.2.2.2.2
def f53_s_l01Dot.l0.W (n : Nat) : LpW := .of 48 f53_s_l01Dot.l0.P sg_llfi f53_s_l01Dot.l0.A (f53_s_l01Dot.l0.F n n)
def f53_s_l01Dot.P : List Arg := [⟨.val, ⟨false, [.sl .shr [.leaf]], [.lst 0 []]⟩⟩, ⟨.val, ⟨false, [.sl .shr [.leaf]], [.lst 0 []]⟩⟩]
def f53_s_l01Dot.A : RAlt (Nat) := .one ⟨[⟨false, [.leaf], [.flt .f32 0]⟩], [none, none]⟩ sg_f
def f53_s_l01Dot.F (n : Nat) (v : Nat × List T × Nat × List T) := f53_s_l01Dot n v.1 v.2.1 v.2.2.1 v.2.2.2
noncomputable def f53_s_l01Dot.O (n : Nat) : Orc := orcOf (E := E) [] [f53_s_l01Dot.l0.W n] n
theorem f53_s_l01Dot.l0.ok (n : Nat) : LpOk (f53_s_l01Dot.O n) E (evalFn E n) n (keepAt 53) (.loop (loopAt c53 0)) :=
  lp_pure f53_s_l01Dot.l0.P sg_llfi f53_s_l01Dot.l0.A (f53_s_l01Dot.l0.F n) (orcOf_cf _ _ n) (lpOk_of (bs := []) (by kernel_rfl) .nil) (fun _ => rfl) (fun _ _ => by kernel_rfl) (fun _ _ _ => by kernel_rfl)
theorem f53_s_l01Dot.ok : ∀ n v x, f53_s_l01Dot.F n v = some x → evalFn E n 53 (flAs f53_s_l01Dot.P (sg_ll.pk v)) = some (f53_s_l01Dot.A.enc x) :=
  fn_pure (modes := (fdAt 53).ms) (outs := (fdAt 53).os) (results := (fdAt 53).rs) f53_s_l01Dot.O (c := c53) (keep := keepAt 53) (by kernel_rfl) (fun n => orcOf_cf _ _ n) (fun n => lpOk_of (bs := [loopAt c53 0]) (by kernel_rfl) (.cons (f53_s_l01Dot.l0.ok n) .nil)) (fun _ => rfl) (fun _ _ => by kernel_rfl)
noncomputable def f53_s_l01Dot.w : FnW E := fnW 53 f53_s_l01Dot.P sg_ll f53_s_l01Dot.A f53_s_l01Dot.F f53_s_l01Dot.ok

def f37_s_l10Lag : Nat → Nat → List T → Int → Int → Option (Nat)
  | 0, _, _, _, _ => none
  | n + 1, n1, l2, i3, i4 =>
    bd (f37_s_l10Lag.l0 n n n1 l2 i3 i4 0 (reps 0 [(T.flt FloatKind.f32 0)]) (0 : Int)) fun r5 =>
    let n6 : Nat := r5.1
    let l7 : List T := r5.2
    bd (f53_s_l01Dot n n6 l7 n6 l7) fun r8 =>
    let x9 : Nat := r8
    some x9
def sg_lii : Sig (Nat × List T × Int × Int) where
  pk := fun v => [.lst v.1 v.2.1, .int v.2.2.1, .int v.2.2.2]
  up := fun ls => match ls with
    | [.lst a0 a1, .int a2, .int a3] => some (a0, a1, a2, a3)
    | _ => none
  ok := by
    intro ls v h
    split at h
    · cases h; rfl
    · cases h

def sg_liili : Sig (Nat × List T × Int × Int × Nat × List T × Int) where
  pk := fun v => [.lst v.1 v.2.1, .int v.2.2.1, .int v.2.2.2.1, .lst v.2.2.2.2.1 v.2.2.2.2.2.1, .int v.2.2.2.2.2.2]
  up := fun ls => match ls with
    | [.lst a0 a1, .int a2, .int a3, .lst a4 a5, .int a6] => some (a0, a1, a2, a3, a4, a5, a6)
    | _ => none
  ok := by
    intro ls v h
    split at h
    · cases h; rfl
    · cases h

def f37_s_l10Lag.l0.P : AS := ⟨[(0, .val false [.sl .shr [.leaf]] [.lst 0 []] [] 0), (1, .val false [.leaf] [.int .i64 0] [] 0), (2, .val false [.leaf] [.int .i64 0] [] 0), (7, .val false [.sl .own [.leaf]] [.lst 0 []] [] 0), (8, .val false [.leaf] [.int .i64 0] [] 0)], 0⟩
def f37_s_l10Lag.l0.A : Alt (Nat × List T) := .one (.exit 0) ⟨[(7, .val false [.sl .own [.leaf]] [.lst 0 []] [] 0)], 0⟩ sg_l
def f37_s_l10Lag.l0.F (n m : Nat) (v : Nat × List T × Int × Int × Nat × List T × Int) := f37_s_l10Lag.l0 n m v.1 v.2.1 v.2.2.1 v.2.2.2.1 v.2.2.2.2.1 v.2.2.2.2.2.1 v.2.2.2.2.2.2
def f37_s_l10Lag.l0.W (n : Nat) : LpW := .of 48 f37_s_l10Lag.l0.P sg_liili f37_s_l10Lag.l0.A (f37_s_l10Lag.l0.F n n)
def f37_s_l10Lag.P : List Arg := [⟨.val, ⟨false, [.sl .shr [.leaf]], [.lst 0 []]⟩⟩, ⟨.val, ⟨false, [.leaf], [.int .i64 0]⟩⟩, ⟨.val, ⟨false, [.leaf], [.int .i64 0]⟩⟩]
def f37_s_l10Lag.A : RAlt (Nat) := .one ⟨[⟨false, [.leaf], [.flt .f32 0]⟩], [none, none, none]⟩ sg_f
def f37_s_l10Lag.F (n : Nat) (v : Nat × List T × Int × Int) := f37_s_l10Lag n v.1 v.2.1 v.2.2.1 v.2.2.2
noncomputable def f37_s_l10Lag.O (n : Nat) : Orc := orcOf (E := E) [f53_s_l01Dot.w] [f37_s_l10Lag.l0.W n] n
theorem f37_s_l10Lag.l0.ok (n : Nat) : LpOk (f37_s_l10Lag.O n) E (evalFn E n) n (keepAt 37) (.loop (loopAt c37 0)) :=
  lp_pure f37_s_l10Lag.l0.P sg_liili f37_s_l10Lag.l0.A (f37_s_l10Lag.l0.F n) (orcOf_cf _ _ n) (lpOk_of (bs := []) (by kernel_rfl) .nil) (fun _ => rfl) (fun _ _ => by kernel_rfl) (fun _ _ _ => by kernel_rfl)
theorem f37_s_l10Lag.ok : ∀ n v x, f37_s_l10Lag.F n v = some x → evalFn E n 37 (flAs f37_s_l10Lag.P (sg_lii.pk v)) = some (f37_s_l10Lag.A.enc x) :=
  fn_pure (modes := (fdAt 37).ms) (outs := (fdAt 37).os) (results := (fdAt 37).rs) f37_s_l10Lag.O (c := c37) (keep := keepAt 37) (by kernel_rfl) (fun n => orcOf_cf _ _ n) (fun n => lpOk_of (bs := [loopAt c37 0]) (by kernel_rfl) (.cons (f37_s_l10Lag.l0.ok n) .nil)) (fun _ => rfl) (fun _ _ => by kernel_rfl)
noncomputable def f37_s_l10Lag.w : FnW E := fnW 37 f37_s_l10Lag.P sg_lii f37_s_l10Lag.A f37_s_l10Lag.F f37_s_l10Lag.ok

def f32_s_PitchOf.l0 (n : Nat) : Nat → Nat → List T → Int → Int → Int → Nat → Int → Option (Int × Nat)
  | 0, _, _, _, _, _, _, _ => none
  | m + 1, n1, l2, i3, i4, i5, x6, i7 =>
    br (decide (i7 ≤ i3)) (
     bd (f37_s_l10Lag n n1 l2 i7 (IntKind.i64.wrap (i4 - i3))) fun r8 =>
     let x9 : Nat := r8
     br (feq FloatKind.f32 x9 x9) (
      br (i5 == (0 : Int)) (
       f32_s_PitchOf.l0 n m n1 l2 i3 i4 i7 x9 (IntKind.i64.wrap (i7 + (1 : Int)))) (
       br (flt FloatKind.f32 x9 x6) (
        f32_s_PitchOf.l0 n m n1 l2 i3 i4 i7 x9 (IntKind.i64.wrap (i7 + (1 : Int)))) (
        f32_s_PitchOf.l0 n m n1 l2 i3 i4 i5 x6 (IntKind.i64.wrap (i7 + (1 : Int)))))) (
      f32_s_PitchOf.l0 n m n1 l2 i3 i4 i5 x6 (IntKind.i64.wrap (i7 + (1 : Int))))) (
     some (i5, x6))
def f32_s_PitchOf : Nat → Nat → List T → Int → Int → Option (Int × Nat × Bool)
  | 0, _, _, _, _ => none
  | n + 1, n1, l2, i3, i4 =>
    let i5 : Int := ((n1 : Nat) : Int)
    bd (f34_s_l01Few n n1 l2) fun r6 =>
    let b7 : Bool := r6
    br (!b7) (
     some ((0 : Int), 0, false)) (
     br (decide (i3 < (1 : Int))) (
      some ((0 : Int), 0, false)) (
      bd (f36_s_l00In n i4 i3 (IntKind.i64.wrap (i5 - (1 : Int)))) fun r8 =>
      let b9 : Bool := r8
      br (!b9) (
       some ((0 : Int), 0, false)) (
       bd (f32_s_PitchOf.l0 n n n1 l2 i4 i5 (0 : Int) 0 i3) fun r10 =>
       let i11 : Int := r10.1
       let x12 : Nat := r10.2
       some (i11, x12, (decide (i11 > (0 : Int)))))))
def sg_ifb : Sig (Int × Nat × Bool) where
  pk := fun v => [.int v.1, .flt v.2.1, .bool v.2.2]
  up := fun ls => match ls with
    | [.int a0, .flt a1, .bool a2] => some (a0, a1, a2)
    | _ => none
  ok := by
    intro ls v h
    split at h
    · cases h; rfl
    · cases h

def sg_liiifi : Sig (Nat × List T × Int × Int × Int × Nat × Int) where
  pk := fun v => [.lst v.1 v.2.1, .int v.2.2.1, .int v.2.2.2.1, .int v.2.2.2.2.1, .flt v.2.2.2.2.2.1, .int v.2.2.2.2.2.2]
  up := fun ls => match ls with
    | [.lst a0 a1, .int a2, .int a3, .int a4, .flt a5, .int a6] => some (a0, a1, a2, a3, a4, a5, a6)
    | _ => none
  ok := by
    intro ls v h
    split at h
    · cases h; rfl
    · cases h

def sg_if : Sig (Int × Nat) where
  pk := fun v => [.int v.1, .flt v.2]
  up := fun ls => match ls with
    | [.int a0, .flt a1] => some (a0, a1)
    | _ => none
  ok := by
    intro ls v h
    split at h
    · cases h; rfl
    · cases h

def f32_s_PitchOf.l0.P : AS := ⟨[(0, .val false [.sl .shr [.leaf]] [.lst 0 []] [] 0), (2, .val false [.leaf] [.int .i64 0] [] 0), (9, .val false [.leaf] [.int .i64 0] [] 0), (10, .val false [.leaf] [.int .i64 0] [] 0), (11, .val false [.leaf] [.flt .f32 0] [] 0), (12, .val false [.leaf] [.int .i64 0] [] 0)], 0⟩
def f32_s_PitchOf.l0.A : Alt (Int × Nat) := .one (.exit 0) ⟨[(10, .val false [.leaf] [.int .i64 0] [] 0), (11, .val false [.leaf] [.flt .f32 0] [] 0)], 0⟩ sg_if
def f32_s_PitchOf.l0.F (n m : Nat) (v : Nat × List T × Int × Int × Int × Nat × Int) := f32_s_PitchOf.l0 n m v.1 v.2.1 v.2.2.1 v.2.2.2.1 v.2.2.2.2.1 v.2.2.2.2.2.1 v.2.2.2.2.2.2
def f32_s_PitchOf.l0.W (n : Nat) : LpW := .of 112 f32_s_PitchOf.l0.P sg_liiifi f32_s_PitchOf.l0.A (f32_s_PitchOf.l0.F n n)
def f32_s_PitchOf.P : List Arg := [⟨.val, ⟨false, [.sl .shr [.leaf]], [.lst 0 []]⟩⟩, ⟨.val, ⟨false, [.leaf], [.int .i64 0]⟩⟩, ⟨.val, ⟨false, [.leaf], [.int .i64 0]⟩⟩]
def f32_s_PitchOf.A : RAlt (Int × Nat × Bool) := .one ⟨[⟨false, [.leaf], [.int .i64 0]⟩, ⟨false, [.leaf], [.flt .f32 0]⟩, ⟨false, [.leaf], [.bool false]⟩], [none, none, none]⟩ sg_ifb
def f32_s_PitchOf.F (n : Nat) (v : Nat × List T × Int × Int) := f32_s_PitchOf n v.1 v.2.1 v.2.2.1 v.2.2.2
noncomputable def f32_s_PitchOf.O (n : Nat) : Orc := orcOf (E := E) [f34_s_l01Few.w, f36_s_l00In.w, f37_s_l10Lag.w] [f32_s_PitchOf.l0.W n] n
theorem f32_s_PitchOf.l0.ok (n : Nat) : LpOk (f32_s_PitchOf.O n) E (evalFn E n) n (keepAt 32) (.loop (loopAt c32 0)) :=
  lp_pure f32_s_PitchOf.l0.P sg_liiifi f32_s_PitchOf.l0.A (f32_s_PitchOf.l0.F n) (orcOf_cf _ _ n) (lpOk_of (bs := []) (by kernel_rfl) .nil) (fun _ => rfl) (fun _ _ => by kernel_rfl) (fun _ _ _ => by kernel_rfl)
theorem f32_s_PitchOf.ok : ∀ n v x, f32_s_PitchOf.F n v = some x → evalFn E n 32 (flAs f32_s_PitchOf.P (sg_lii.pk v)) = some (f32_s_PitchOf.A.enc x) :=
  fn_pure (modes := (fdAt 32).ms) (outs := (fdAt 32).os) (results := (fdAt 32).rs) f32_s_PitchOf.O (c := c32) (keep := keepAt 32) (by kernel_rfl) (fun n => orcOf_cf _ _ n) (fun n => lpOk_of (bs := [loopAt c32 0]) (by kernel_rfl) (.cons (f32_s_PitchOf.l0.ok n) .nil)) (fun _ => rfl) (fun _ _ => by kernel_rfl)
noncomputable def f32_s_PitchOf.w : FnW E := fnW 32 f32_s_PitchOf.P sg_lii f32_s_PitchOf.A f32_s_PitchOf.F f32_s_PitchOf.ok

def f38_i_size : Nat → Int → Option (Int)
  | 0, _ => none
  | n + 1, i1 =>
    some i1
def sg_i : Sig (Int) where
  pk := fun v => [.int v]
  up := fun ls => match ls with
    | [.int a0] => some a0
    | _ => none
  ok := by
    intro ls v h
    split at h
    · cases h; rfl
    · cases h

def f38_i_size.P : List Arg := [⟨.val, ⟨false, [.leaf], [.int .i64 0]⟩⟩]
def f38_i_size.A : RAlt (Int) := .one ⟨[⟨false, [.leaf], [.int .i64 0]⟩], [none]⟩ sg_i
def f38_i_size.F (n : Nat) (v : Int) := f38_i_size n v
noncomputable def f38_i_size.O (n : Nat) : Orc := orcOf (E := E) [] [] n
theorem f38_i_size.ok : ∀ n v x, f38_i_size.F n v = some x → evalFn E n 38 (flAs f38_i_size.P (sg_i.pk v)) = some (f38_i_size.A.enc x) :=
  fn_pure (modes := (fdAt 38).ms) (outs := (fdAt 38).os) (results := (fdAt 38).rs) f38_i_size.O (c := c38) (keep := keepAt 38) (by kernel_rfl) (fun n => orcOf_cf _ _ n) (fun n => lpOk_of (bs := []) (by kernel_rfl) .nil) (fun _ => rfl) (fun _ _ => by kernel_rfl)
noncomputable def f38_i_size.w : FnW E := fnW 38 f38_i_size.P sg_i f38_i_size.A f38_i_size.F f38_i_size.ok

def f35_i_areSamples : Nat → Nat → List T → Option (Bool)
  | 0, _, _ => none
  | n + 1, n1, l2 =>
    some (decide (((n1 : Nat) : Int) ≤ (256 : Int)))
def f35_i_areSamples.P : List Arg := [⟨.val, ⟨false, [.sl .shr [.leaf]], [.lst 0 []]⟩⟩]
def f35_i_areSamples.A : RAlt (Bool) := .one ⟨[⟨false, [.leaf], [.bool false]⟩], [none]⟩ sg_b
def f35_i_areSamples.F (n : Nat) (v : Nat × List T) := f35_i_areSamples n v.1 v.2
noncomputable def f35_i_areSamples.O (n : Nat) : Orc := orcOf (E := E) [] [] n
theorem f35_i_areSamples.ok : ∀ n v x, f35_i_areSamples.F n v = some x → evalFn E n 35 (flAs f35_i_areSamples.P (sg_l.pk v)) = some (f35_i_areSamples.A.enc x) :=
  fn_pure (modes := (fdAt 35).ms) (outs := (fdAt 35).os) (results := (fdAt 35).rs) f35_i_areSamples.O (c := c35) (keep := keepAt 35) (by kernel_rfl) (fun n => orcOf_cf _ _ n) (fun n => lpOk_of (bs := []) (by kernel_rfl) .nil) (fun _ => rfl) (fun _ _ => by kernel_rfl)
noncomputable def f35_i_areSamples.w : FnW E := fnW 35 f35_i_areSamples.P sg_l f35_i_areSamples.A f35_i_areSamples.F f35_i_areSamples.ok

def f39_i_within : Nat → Int → Int → Int → Option (Bool)
  | 0, _, _, _ => none
  | n + 1, i1, i2, i3 =>
    br (decide (i2 ≤ i1)) (
     some (decide (i1 ≤ i3))) (
     some false)
def f39_i_within.P : List Arg := [⟨.val, ⟨false, [.leaf], [.int .i64 0]⟩⟩, ⟨.val, ⟨false, [.leaf], [.int .i64 0]⟩⟩, ⟨.val, ⟨false, [.leaf], [.int .i64 0]⟩⟩]
def f39_i_within.A : RAlt (Bool) := .one ⟨[⟨false, [.leaf], [.bool false]⟩], [none, none, none]⟩ sg_b
def f39_i_within.F (n : Nat) (v : Int × Int × Int) := f39_i_within n v.1 v.2.1 v.2.2
noncomputable def f39_i_within.O (n : Nat) : Orc := orcOf (E := E) [] [] n
theorem f39_i_within.ok : ∀ n v x, f39_i_within.F n v = some x → evalFn E n 39 (flAs f39_i_within.P (sg_iii.pk v)) = some (f39_i_within.A.enc x) :=
  fn_pure (modes := (fdAt 39).ms) (outs := (fdAt 39).os) (results := (fdAt 39).rs) f39_i_within.O (c := c39) (keep := keepAt 39) (by kernel_rfl) (fun n => orcOf_cf _ _ n) (fun n => lpOk_of (bs := []) (by kernel_rfl) .nil) (fun _ => rfl) (fun _ _ => by kernel_rfl)
noncomputable def f39_i_within.w : FnW E := fnW 39 f39_i_within.P sg_iii f39_i_within.A f39_i_within.F f39_i_within.ok

def f40_i_lagPower.l0 (n : Nat) : Nat → Nat → List T → Int → Int → Nat → List T → Int → Option (Nat × List T)
  | 0, _, _, _, _, _, _, _ => none
  | m + 1, n1, l2, i3, i4, n5, l6, i7 =>
    br (decide (i7 < i4)) (
     gd ((decide (((0 : Int) ≤ i7) ∧ (i7 < ((n1 : Nat) : Int)))) && (okAt [(CK.flt FloatKind.f32)] l2 (Int.toNat i7))) (
     gd ((decide (((0 : Int) ≤ (IntKind.i64.wrap (i7 + i3))) ∧ ((IntKind.i64.wrap (i7 + i3)) < ((n1 : Nat) : Int)))) && (okAt [(CK.flt FloatKind.f32)] l2 (Int.toNat (IntKind.i64.wrap (i7 + i3))))) (
     gd (Nat.ble (n5 + 1) 2147483648) (
     let n8 : Nat := (n5 + 1)
     let l9 : List T := (l6 ++ (setN (reps 1 [(T.flt FloatKind.f32 0)]) 0 [(T.flt FloatKind.f32 (fsub FloatKind.f32 (fAt l2 (Int.toNat i7)) (fAt l2 (Int.toNat (IntKind.i64.wrap (i7 + i3))))))]))
     f40_i_lagPower.l0 n m n1 l2 i3 i4 n8 l9 (IntKind.i64.wrap (i7 + (1 : Int))))))) (
     some (n5, l6))
def f52_i_dot.l0 (n : Nat) : Nat → Nat → List T → Nat → List T → Nat → Int → Int → Option (Nat)
  | 0, _, _, _, _, _, _, _ => none
  | m + 1, n1, l2, n3, l4, x5, i6, i7 =>
    br (decide (i7 < i6)) (
     gd ((decide (((0 : Int) ≤ i7) ∧ (i7 < ((n1 : Nat) : Int)))) && (okAt [(CK.flt FloatKind.f32)] l2 (Int.toNat i7))) (
     gd ((decide (((0 : Int) ≤ i7) ∧ (i7 < ((n3 : Nat) : Int)))) && (okAt [(CK.flt FloatKind.f32)] l4 (Int.toNat i7))) (
     let x8 : Nat := (fadd FloatKind.f32 x5 (fmul FloatKind.f32 (fAt l2 (Int.toNat i7)) (fAt l4 (Int.toNat i7))))
     f52_i_dot.l0 n m n1 l2 n3 l4 x8 i6 (IntKind.i64.wrap (i7 + (1 : Int)))))) (
     some x5)
def f52_i_dot : Nat → Nat → List T → Nat → List T → Option (Nat)
  | 0, _, _, _, _ => none
  | n + 1, n1, l2, n3, l4 =>
    bd (f52_i_dot.l0 n n n1 l2 n3 l4 0 ((n1 : Nat) : Int) (0 : Int)) fun r5 =>
    let x6 : Nat := r5
    some x6
def sg_llfii : Sig (Nat × List T × Nat × List T × Nat × Int × Int) where
  pk := fun v => [.lst v.1 v.2.1, .lst v.2.2.1 v.2.2.2.1, .flt v.2.2.2.2.1, .int v.2.2.2.2.2.1, .int v.2.2.2.2.2.2]
  up := fun ls => match ls with
    | [.lst a0 a1, .lst a2 a3, .flt a4, .int a5, .int a6] => some (a0, a1, a2, a3, a4, a5, a6)
    | _ => none
  ok := by
    intro ls v h
    split at h
    · cases h; rfl
    · cases h

def f52_i_dot.l0.P : AS := ⟨[(0, .val false [.sl .shr [.leaf]] [.lst 0 []] [] 0), (1, .val false [.sl .shr [.leaf]] [.lst 0 []] [] 0), (5, .val false [.leaf] [.flt .f32 0] [] 0), (8, .val false [.leaf] [.int .i64 0] [] 0), (9, .val false [.leaf] [.int .i64 0] [] 0)], 0⟩
def f52_i_dot.l0.A : Alt (Nat) := .one (.exit 0) ⟨[(5, .val false [.leaf] [.flt .f32 0] [] 0)], 0⟩ sg_f
def f52_i_dot.l0.F (n m : Nat) (v : Nat × List T × Nat × List T × Nat × Int × Int) := f52_i_dot.l0 n m v.1 v.2.1 v.2.2.1 v.2.2.2.1 v.2.2.2.2.1 v.2.2.2.2.2.1 v.2.2.2.2.2.2
def f52_i_dot.l0.W (n : Nat) : LpW := .of 48 f52_i_dot.l0.P sg_llfii f52_i_dot.l0.A (f52_i_dot.l0.F n n)
def f52_i_dot.P : List Arg := [⟨.val, ⟨false, [.sl .shr [.leaf]], [.lst 0 []]⟩⟩, ⟨.val, ⟨false, [.sl .shr [.leaf]], [.lst 0 []]⟩⟩]
def f52_i_dot.A : RAlt (Nat) := .one ⟨[⟨false, [.leaf], [.flt .f32 0]⟩], [none, none]⟩ sg_f
def f52_i_dot.F (n : Nat) (v : Nat × List T × Nat × List T) := f52_i_dot n v.1 v.2.1 v.2.2.1 v.2.2.2
noncomputable def f52_i_dot.O (n : Nat) : Orc := orcOf (E := E) [] [f52_i_dot.l0.W n] n
theorem f52_i_dot.l0.ok (n : Nat) : LpOk (f52_i_dot.O n) E (evalFn E n) n (keepAt 52) (.loop (loopAt c52 0)) :=
  lp_pure f52_i_dot.l0.P sg_llfii f52_i_dot.l0.A (f52_i_dot.l0.F n) (orcOf_cf _ _ n) (lpOk_of (bs := []) (by kernel_rfl) .nil) (fun _ => rfl) (fun _ _ => by kernel_rfl) (fun _ _ _ => by kernel_rfl)
theorem f52_i_dot.ok : ∀ n v x, f52_i_dot.F n v = some x → evalFn E n 52 (flAs f52_i_dot.P (sg_ll.pk v)) = some (f52_i_dot.A.enc x) :=
  fn_pure (modes := (fdAt 52).ms) (outs := (fdAt 52).os) (results := (fdAt 52).rs) f52_i_dot.O (c := c52) (keep := keepAt 52) (by kernel_rfl) (fun n => orcOf_cf _ _ n) (fun n => lpOk_of (bs := [loopAt c52 0]) (by kernel_rfl) (.cons (f52_i_dot.l0.ok n) .nil)) (fun _ => rfl) (fun _ _ => by kernel_rfl)
noncomputable def f52_i_dot.w : FnW E := fnW 52 f52_i_dot.P sg_ll f52_i_dot.A f52_i_dot.F f52_i_dot.ok

def f40_i_lagPower : Nat → Nat → List T → Int → Int → Option (Nat)
  | 0, _, _, _, _ => none
  | n + 1, n1, l2, i3, i4 =>
    bd (f40_i_lagPower.l0 n n n1 l2 i3 i4 0 [] (0 : Int)) fun r5 =>
    let n6 : Nat := r5.1
    let l7 : List T := r5.2
    bd (f52_i_dot n n6 l7 n6 l7) fun r8 =>
    let x9 : Nat := r8
    some x9
def f40_i_lagPower.l0.P : AS := ⟨[(0, .val false [.sl .shr [.leaf]] [.lst 0 []] [] 0), (1, .val false [.leaf] [.int .i64 0] [] 0), (2, .val false [.leaf] [.int .i64 0] [] 0), (7, .val false [.sl .own [.leaf]] [.lst 0 []] [] 0), (8, .val false [.leaf] [.int .i64 0] [] 0)], 0⟩
def f40_i_lagPower.l0.A : Alt (Nat × List T) := .one (.exit 0) ⟨[(7, .val false [.sl .own [.leaf]] [.lst 0 []] [] 0)], 0⟩ sg_l
def f40_i_lagPower.l0.F (n m : Nat) (v : Nat × List T × Int × Int × Nat × List T × Int) := f40_i_lagPower.l0 n m v.1 v.2.1 v.2.2.1 v.2.2.2.1 v.2.2.2.2.1 v.2.2.2.2.2.1 v.2.2.2.2.2.2
def f40_i_lagPower.l0.W (n : Nat) : LpW := .of 48 f40_i_lagPower.l0.P sg_liili f40_i_lagPower.l0.A (f40_i_lagPower.l0.F n n)
def f40_i_lagPower.P : List Arg := [⟨.val, ⟨false, [.sl .shr [.leaf]], [.lst 0 []]⟩⟩, ⟨.val, ⟨false, [.leaf], [.int .i64 0]⟩⟩, ⟨.val, ⟨false, [.leaf], [.int .i64 0]⟩⟩]
def f40_i_lagPower.A : RAlt (Nat) := .one ⟨[⟨false, [.leaf], [.flt .f32 0]⟩], [none, none, none]⟩ sg_f
def f40_i_lagPower.F (n : Nat) (v : Nat × List T × Int × Int) := f40_i_lagPower n v.1 v.2.1 v.2.2.1 v.2.2.2
noncomputable def f40_i_lagPower.O (n : Nat) : Orc := orcOf (E := E) [f52_i_dot.w] [f40_i_lagPower.l0.W n] n
theorem f40_i_lagPower.l0.ok (n : Nat) : LpOk (f40_i_lagPower.O n) E (evalFn E n) n (keepAt 40) (.loop (loopAt c40 0)) :=
  lp_pure f40_i_lagPower.l0.P sg_liili f40_i_lagPower.l0.A (f40_i_lagPower.l0.F n) (orcOf_cf _ _ n) (lpOk_of (bs := []) (by kernel_rfl) .nil) (fun _ => rfl) (fun _ _ => by kernel_rfl) (fun _ _ _ => by kernel_rfl)
theorem f40_i_lagPower.ok : ∀ n v x, f40_i_lagPower.F n v = some x → evalFn E n 40 (flAs f40_i_lagPower.P (sg_lii.pk v)) = some (f40_i_lagPower.A.enc x) :=
  fn_pure (modes := (fdAt 40).ms) (outs := (fdAt 40).os) (results := (fdAt 40).rs) f40_i_lagPower.O (c := c40) (keep := keepAt 40) (by kernel_rfl) (fun n => orcOf_cf _ _ n) (fun n => lpOk_of (bs := [loopAt c40 0]) (by kernel_rfl) (.cons (f40_i_lagPower.l0.ok n) .nil)) (fun _ => rfl) (fun _ _ => by kernel_rfl)
noncomputable def f40_i_lagPower.w : FnW E := fnW 40 f40_i_lagPower.P sg_lii f40_i_lagPower.A f40_i_lagPower.F f40_i_lagPower.ok

def f33_i_PitchOf.l0 (n : Nat) : Nat → Nat → List T → Int → Int → Int → Nat → Int → Option (Int × Nat)
  | 0, _, _, _, _, _, _, _ => none
  | m + 1, n1, l2, i3, i4, i5, x6, i7 =>
    br (decide (i7 ≤ i3)) (
     bd (f40_i_lagPower n n1 l2 i7 (IntKind.i64.wrap (i4 - i3))) fun r8 =>
     let x9 : Nat := r8
     br (feq FloatKind.f32 x9 x9) (
      br (decide (i5 < (0 : Int))) (
       f33_i_PitchOf.l0 n m n1 l2 i3 i4 i7 x9 (IntKind.i64.wrap (i7 + (1 : Int)))) (
       br (flt FloatKind.f32 x9 x6) (
        f33_i_PitchOf.l0 n m n1 l2 i3 i4 i7 x9 (IntKind.i64.wrap (i7 + (1 : Int)))) (
        f33_i_PitchOf.l0 n m n1 l2 i3 i4 i5 x6 (IntKind.i64.wrap (i7 + (1 : Int)))))) (
      f33_i_PitchOf.l0 n m n1 l2 i3 i4 i5 x6 (IntKind.i64.wrap (i7 + (1 : Int))))) (
     some (i5, x6))
def f33_i_PitchOf : Nat → Nat → List T → Int → Int → Option (Int × Nat × Bool)
  | 0, _, _, _, _ => none
  | n + 1, n1, l2, i3, i4 =>
    bd (f38_i_size n ((n1 : Nat) : Int)) fun r5 =>
    let i6 : Int := r5
    bd (f35_i_areSamples n n1 l2) fun r7 =>
    let b8 : Bool := r7
    br (!b8) (
     some ((0 : Int), 0, false)) (
     bd (f39_i_within n i3 (1 : Int) (IntKind.i64.wrap (i6 - (1 : Int)))) fun r9 =>
     let b10 : Bool := r9
     br (!b10) (
      some ((0 : Int), 0, false)) (
      bd (f39_i_within n i4 i3 (IntKind.i64.wrap (i6 - (1 : Int)))) fun r11 =>
      let b12 : Bool := r11
      br (!b12) (
       some ((0 : Int), 0, false)) (
       bd (f33_i_PitchOf.l0 n n n1 l2 i4 i6 (-1 : Int) 0 i3) fun r13 =>
       let i14 : Int := r13.1
       let x15 : Nat := r13.2
       br (decide (i14 < (0 : Int))) (
        some ((0 : Int), 0, false)) (
        some (i14, x15, true)))))
def f33_i_PitchOf.l0.P : AS := ⟨[(0, .val false [.sl .shr [.leaf]] [.lst 0 []] [] 0), (2, .val false [.leaf] [.int .i64 0] [] 0), (9, .val false [.leaf] [.int .i64 0] [] 0), (10, .val false [.leaf] [.int .i64 0] [] 0), (11, .val false [.leaf] [.flt .f32 0] [] 0), (12, .val false [.leaf] [.int .i64 0] [] 0)], 0⟩
def f33_i_PitchOf.l0.A : Alt (Int × Nat) := .one (.exit 0) ⟨[(10, .val false [.leaf] [.int .i64 0] [] 0), (11, .val false [.leaf] [.flt .f32 0] [] 0)], 0⟩ sg_if
def f33_i_PitchOf.l0.F (n m : Nat) (v : Nat × List T × Int × Int × Int × Nat × Int) := f33_i_PitchOf.l0 n m v.1 v.2.1 v.2.2.1 v.2.2.2.1 v.2.2.2.2.1 v.2.2.2.2.2.1 v.2.2.2.2.2.2
def f33_i_PitchOf.l0.W (n : Nat) : LpW := .of 96 f33_i_PitchOf.l0.P sg_liiifi f33_i_PitchOf.l0.A (f33_i_PitchOf.l0.F n n)
def f33_i_PitchOf.P : List Arg := [⟨.val, ⟨false, [.sl .shr [.leaf]], [.lst 0 []]⟩⟩, ⟨.val, ⟨false, [.leaf], [.int .i64 0]⟩⟩, ⟨.val, ⟨false, [.leaf], [.int .i64 0]⟩⟩]
def f33_i_PitchOf.A : RAlt (Int × Nat × Bool) := .one ⟨[⟨false, [.leaf], [.int .i64 0]⟩, ⟨false, [.leaf], [.flt .f32 0]⟩, ⟨false, [.leaf], [.bool false]⟩], [none, none, none]⟩ sg_ifb
def f33_i_PitchOf.F (n : Nat) (v : Nat × List T × Int × Int) := f33_i_PitchOf n v.1 v.2.1 v.2.2.1 v.2.2.2
noncomputable def f33_i_PitchOf.O (n : Nat) : Orc := orcOf (E := E) [f38_i_size.w, f35_i_areSamples.w, f39_i_within.w, f40_i_lagPower.w] [f33_i_PitchOf.l0.W n] n
theorem f33_i_PitchOf.l0.ok (n : Nat) : LpOk (f33_i_PitchOf.O n) E (evalFn E n) n (keepAt 33) (.loop (loopAt c33 0)) :=
  lp_pure f33_i_PitchOf.l0.P sg_liiifi f33_i_PitchOf.l0.A (f33_i_PitchOf.l0.F n) (orcOf_cf _ _ n) (lpOk_of (bs := []) (by kernel_rfl) .nil) (fun _ => rfl) (fun _ _ => by kernel_rfl) (fun _ _ _ => by kernel_rfl)
theorem f33_i_PitchOf.ok : ∀ n v x, f33_i_PitchOf.F n v = some x → evalFn E n 33 (flAs f33_i_PitchOf.P (sg_lii.pk v)) = some (f33_i_PitchOf.A.enc x) :=
  fn_pure (modes := (fdAt 33).ms) (outs := (fdAt 33).os) (results := (fdAt 33).rs) f33_i_PitchOf.O (c := c33) (keep := keepAt 33) (by kernel_rfl) (fun n => orcOf_cf _ _ n) (fun n => lpOk_of (bs := [loopAt c33 0]) (by kernel_rfl) (.cons (f33_i_PitchOf.l0.ok n) .nil)) (fun _ => rfl) (fun _ _ => by kernel_rfl)
noncomputable def f33_i_PitchOf.w : FnW E := fnW 33 f33_i_PitchOf.P sg_lii f33_i_PitchOf.A f33_i_PitchOf.F f33_i_PitchOf.ok

def f15_l_sameFloat : Nat → Nat → Nat → Option (Bool)
  | 0, _, _ => none
  | n + 1, x1, x2 =>
    br (fne FloatKind.f64 x1 x1) (
     br (fne FloatKind.f64 x1 x1) (
      some (fne FloatKind.f64 x2 x2)) (
      some false)) (
     br (fne FloatKind.f64 x2 x2) (
      br (fne FloatKind.f64 x1 x1) (
       some (fne FloatKind.f64 x2 x2)) (
       some false)) (
      br (feq FloatKind.f64 x1 0) (
       br (feq FloatKind.f64 x2 0) (
        some ((fgt FloatKind.f64 (fdiv FloatKind.f64 4607182418800017408 x1) 0) == (fgt FloatKind.f64 (fdiv FloatKind.f64 4607182418800017408 x2) 0))) (
        some (feq FloatKind.f64 x1 x2))) (
       some (feq FloatKind.f64 x1 x2))))
def sg_ff : Sig (Nat × Nat) where
  pk := fun v => [.flt v.1, .flt v.2]
  up := fun ls => match ls with
    | [.flt a0, .flt a1] => some (a0, a1)
    | _ => none
  ok := by
    intro ls v h
    split at h
    · cases h; rfl
    · cases h

def f15_l_sameFloat.P : List Arg := [⟨.val, ⟨false, [.leaf], [.flt .f64 0]⟩⟩, ⟨.val, ⟨false, [.leaf], [.flt .f64 0]⟩⟩]
def f15_l_sameFloat.A : RAlt (Bool) := .one ⟨[⟨false, [.leaf], [.bool false]⟩], [none, none]⟩ sg_b
def f15_l_sameFloat.F (n : Nat) (v : Nat × Nat) := f15_l_sameFloat n v.1 v.2
noncomputable def f15_l_sameFloat.O (n : Nat) : Orc := orcOf (E := E) [] [] n
theorem f15_l_sameFloat.ok : ∀ n v x, f15_l_sameFloat.F n v = some x → evalFn E n 15 (flAs f15_l_sameFloat.P (sg_ff.pk v)) = some (f15_l_sameFloat.A.enc x) :=
  fn_pure (modes := (fdAt 15).ms) (outs := (fdAt 15).os) (results := (fdAt 15).rs) f15_l_sameFloat.O (c := c15) (keep := keepAt 15) (by kernel_rfl) (fun n => orcOf_cf _ _ n) (fun n => lpOk_of (bs := []) (by kernel_rfl) .nil) (fun _ => rfl) (fun _ _ => by kernel_rfl)
noncomputable def f15_l_sameFloat.w : FnW E := fnW 15 f15_l_sameFloat.P sg_ff f15_l_sameFloat.A f15_l_sameFloat.F f15_l_sameFloat.ok

def f12_l_eqFloat32S.l0 (n : Nat) : Nat → Nat → List T → Nat → List T → Int → Option ((Bool) ⊕ (Unit))
  | 0, _, _, _, _, _ => none
  | m + 1, n1, l2, n3, l4, i5 =>
    br (decide (i5 < ((n1 : Nat) : Int))) (
     gd ((decide (((0 : Int) ≤ i5) ∧ (i5 < ((n1 : Nat) : Int)))) && (okAt [(CK.flt FloatKind.f32)] l2 (Int.toNat i5))) (
     bd ((fltToFlt FloatKind.f32 (fAt l2 (Int.toNat i5)) FloatKind.f64)) fun y6 =>
     gd ((decide (((0 : Int) ≤ i5) ∧ (i5 < ((n3 : Nat) : Int)))) && (okAt [(CK.flt FloatKind.f32)] l4 (Int.toNat i5))) (
     bd ((fltToFlt FloatKind.f32 (fAt l4 (Int.toNat i5)) FloatKind.f64)) fun y7 =>
     bd (f15_l_sameFloat n y6 y7) fun r8 =>
     let b9 : Bool := r8
     br (!b9) (
      some (Sum.inl false)) (
      f12_l_eqFloat32S.l0 n m n1 l2 n3 l4 (IntKind.i64.wrap (i5 + (1 : Int))))))) (
     some (Sum.inr ()))
def f12_l_eqFloat32S : Nat → Nat → List T → Nat → List T → Option (Bool)
  | 0, _, _, _, _ => none
  | n + 1, n1, l2, n3, l4 =>
    br (((n1 : Nat) : Int) != ((n3 : Nat) : Int)) (
     some false) (
     bd (f12_l_eqFloat32S.l0 n n n1 l2 n3 l4 (0 : Int)) fun r5 =>
     sm r5 (fun u6 =>
      let b7 : Bool := u6
      some b7) (fun u8 =>
      some true))
def sg : Sig (Unit) where
  pk := fun v => []
  up := fun ls => match ls with
    | [] => some ()
    | _ => none
  ok := by
    intro ls v h
    split at h
    · cases h; rfl
    · cases h

def f12_l_eqFloat32S.l0.P : AS := ⟨[(0, .val false [.sl .shr [.leaf]] [.lst 0 []] [] 0), (1, .val false [.sl .shr [.leaf]] [.lst 0 []] [] 0), (5, .val false [.leaf] [.int .i64 0] [] 0)], 0⟩
def f12_l_eqFloat32S.l0.A : Alt ((Bool) ⊕ (Unit)) := .or (.one .ret ⟨[(4, .val false [.leaf] [.bool false] [] 0)], 0⟩ sg_b) (.one (.exit 0) ⟨[(4, .dead)], 0⟩ sg)
def f12_l_eqFloat32S.l0.F (n m : Nat) (v : Nat × List T × Nat × List T × Int) := f12_l_eqFloat32S.l0 n m v.1 v.2.1 v.2.2.1 v.2.2.2.1 v.2.2.2.2
def f12_l_eqFloat32S.l0.W (n : Nat) : LpW := .of 64 f12_l_eqFloat32S.l0.P sg_lli f12_l_eqFloat32S.l0.A (f12_l_eqFloat32S.l0.F n n)
def f12_l_eqFloat32S.P : List Arg := [⟨.val, ⟨false, [.sl .shr [.leaf]], [.lst 0 []]⟩⟩, ⟨.val, ⟨false, [.sl .shr [.leaf]], [.lst 0 []]⟩⟩]
def f12_l_eqFloat32S.A : RAlt (Bool) := .one ⟨[⟨false, [.leaf], [.bool false]⟩], [none, none]⟩ sg_b
def f12_l_eqFloat32S.F (n : Nat) (v : Nat × List T × Nat × List T) := f12_l_eqFloat32S n v.1 v.2.1 v.2.2.1 v.2.2.2
noncomputable def f12_l_eqFloat32S.O (n : Nat) : Orc := orcOf (E := E) [f15_l_sameFloat.w] [f12_l_eqFloat32S.l0.W n] n
theorem f12_l_eqFloat32S.l0.ok (n : Nat) : LpOk (f12_l_eqFloat32S.O n) E (evalFn E n) n (keepAt 12) (.loop (loopAt c12 0)) :=
  lp_pure f12_l_eqFloat32S.l0.P sg_lli f12_l_eqFloat32S.l0.A (f12_l_eqFloat32S.l0.F n) (orcOf_cf _ _ n) (lpOk_of (bs := []) (by kernel_rfl) .nil) (fun _ => rfl) (fun _ _ => by kernel_rfl) (fun _ _ _ => by kernel_rfl)
theorem f12_l_eqFloat32S.ok : ∀ n v x, f12_l_eqFloat32S.F n v = some x → evalFn E n 12 (flAs f12_l_eqFloat32S.P (sg_ll.pk v)) = some (f12_l_eqFloat32S.A.enc x) :=
  fn_pure (modes := (fdAt 12).ms) (outs := (fdAt 12).os) (results := (fdAt 12).rs) f12_l_eqFloat32S.O (c := c12) (keep := keepAt 12) (by kernel_rfl) (fun n => orcOf_cf _ _ n) (fun n => lpOk_of (bs := [loopAt c12 0]) (by kernel_rfl) (.cons (f12_l_eqFloat32S.l0.ok n) .nil)) (fun _ => rfl) (fun _ _ => by kernel_rfl)
noncomputable def f12_l_eqFloat32S.w : FnW E := fnW 12 f12_l_eqFloat32S.P sg_ll f12_l_eqFloat32S.A f12_l_eqFloat32S.F f12_l_eqFloat32S.ok

def f8_l_FnExactPitchOf : Nat → Nat → List T → Int → Int → Option (Bool)
  | 0, _, _, _, _ => none
  | n + 1, n1, l2, i3, i4 =>
    br (decide (((n1 : Nat) : Int) > (1048576 : Int))) (
     some true) (
     bd (f10_l_toFloat32S n n1 l2) fun r5 =>
     let n6 : Nat := r5.1
     let l7 : List T := r5.2
     bd (f32_s_PitchOf n n6 l7 i3 i4) fun r8 =>
     let i9 : Int := r8.1
     let x10 : Nat := r8.2.1
     let b11 : Bool := r8.2.2
     bd (f10_l_toFloat32S n n1 l2) fun r12 =>
     let n13 : Nat := r12.1
     let l14 : List T := r12.2
     bd (f33_i_PitchOf n n13 l14 i3 i4) fun r15 =>
     let i16 : Int := r15.1
     let x17 : Nat := r15.2.1
     let b18 : Bool := r15.2.2
     br (i16 != i9) (
      some false) (
      bd ((fltToFlt FloatKind.f32 x17 FloatKind.f64)) fun y19 =>
      bd ((fltToFlt FloatKind.f32 x10 FloatKind.f64)) fun y20 =>
      bd (f15_l_sameFloat n y19 y20) fun r21 =>
      let b22 : Bool := r21
      br (!b22) (
       some false) (
       br (!(b18 == b11)) (
        some false) (
        bd (f10_l_toFloat32S n n1 l2) fun r23 =>
        let n24 : Nat := r23.1
        let l25 : List T := r23.2
        bd (f12_l_eqFloat32S n n13 l14 n24 l25) fun r26 =>
        let b27 : Bool := r26
        br (!b27) (
         some false) (
         some true)))))
def f8_l_FnExactPitchOf.P : List Arg := [⟨.val, ⟨false, [.sl .shr [.leaf]], [.lst 0 []]⟩⟩, ⟨.val, ⟨false, [.leaf], [.int .i64 0]⟩⟩, ⟨.val, ⟨false, [.leaf], [.int .i64 0]⟩⟩]
def f8_l_FnExactPitchOf.A : RAlt (Bool) := .one ⟨[⟨false, [.leaf], [.bool false]⟩], [none, none, none]⟩ sg_b
def f8_l_FnExactPitchOf.F (n : Nat) (v : Nat × List T × Int × Int) := f8_l_FnExactPitchOf n v.1 v.2.1 v.2.2.1 v.2.2.2
noncomputable def f8_l_FnExactPitchOf.O (n : Nat) : Orc := orcOf (E := E) [f10_l_toFloat32S.w, f32_s_PitchOf.w, f33_i_PitchOf.w, f15_l_sameFloat.w, f12_l_eqFloat32S.w] [] n
theorem f8_l_FnExactPitchOf.ok : ∀ n v x, f8_l_FnExactPitchOf.F n v = some x → evalFn E n 8 (flAs f8_l_FnExactPitchOf.P (sg_lii.pk v)) = some (f8_l_FnExactPitchOf.A.enc x) :=
  fn_pure (modes := (fdAt 8).ms) (outs := (fdAt 8).os) (results := (fdAt 8).rs) f8_l_FnExactPitchOf.O (c := c8) (keep := keepAt 8) (by kernel_rfl) (fun n => orcOf_cf _ _ n) (fun n => lpOk_of (bs := []) (by kernel_rfl) .nil) (fun _ => rfl) (fun _ _ => by kernel_rfl)
noncomputable def f8_l_FnExactPitchOf.w : FnW E := fnW 8 f8_l_FnExactPitchOf.P sg_lii f8_l_FnExactPitchOf.A f8_l_FnExactPitchOf.F f8_l_FnExactPitchOf.ok
end Go.Proofs.Ytcadjmbpmbdliaa.D
end
section
/- FnExactPitchOf, in plain Lean. -/
namespace Go.Proofs.Ytcadjmbpmbdliaa.D
open Go Go.Desk
set_option linter.unusedVariables false
/-- a copy in single precision -/
theorem copy_loop (n : Nat) (xs : List Nat) (hx : xs.length ≤ 1048576) : ∀ (j i m : Nat) (ys : List Nat), ys.length = xs.length → i + j = xs.length → j < m →
    f10_l_toFloat32S.l0 n m xs.length (fls .f32 xs) xs.length (fls .f32 (xs.take i ++ ys.drop i)) (i : Int) = some (xs.length, fls .f32 xs) := by
  intro j
  induction j with
  | zero =>
    intro i m ys hl hi hm
    obtain ⟨m, rfl⟩ : ∃ k, m = k + 1 := ⟨m - 1, by omega⟩
    rw [f10_l_toFloat32S.l0, nlt_dec (by omega)]
    simp only [br]
    rw [List.take_of_length_le (by omega), List.drop_eq_nil_of_le (by omega), List.append_nil]
  | succ j ih =>
    intro i m ys hl hi hm
    obtain ⟨m, rfl⟩ : ∃ k, m = k + 1 := ⟨m - 1, by omega⟩
    have hlt : i < xs.length := by omega
    rw [f10_l_toFloat32S.l0, lt_dec hlt, in_dec hlt, Int.toNat_natCast, okAt_fls hlt, wrap_succ (by omega)]
    have hlen : Nat.ble (i + 1) (fls .f32 (xs.take i ++ ys.drop i)).length = true := by
      rw [Nat.ble_eq, fls_length]; simp; omega
    rw [hlen]
    simp only [br, gd, Bool.and_self]
    rw [setN_one, fAt_fls, set_fls]
    have : xs.getD i 0 = xs[i] := by simp [List.getD, hlt]
    rw [this, take_set_drop hlt hl]
    exact ih (i + 1) m ys hl (by omega) (by omega)

theorem copied (n : Nat) (xs : List Nat) (hx : xs.length ≤ 1048576) (hn : xs.length < n) : f10_l_toFloat32S (n + 1) xs.length (fls .f32 xs) = some (xs.length, fls .f32 xs) := by
  rw [f10_l_toFloat32S]
  have h := copy_loop n xs hx xs.length 0 n (List.replicate xs.length 0) (by simp) (by omega) hn
  rw [List.take_zero, List.drop_zero, List.nil_append] at h
  have e : decide ((0 : Int) ≤ ((xs.length : Nat) : Int) ∧ ((xs.length : Nat) : Int) ≤ (2147483648 : Int)) = true := by simp; omega
  rw [reps_fls, e]
  simp only [gd]
  rw [show ((0 : Nat) : Int) = 0 from rfl] at h
  rw [h]; rfl

theorem same_self (n y : Nat) : f15_l_sameFloat (n + 1) y y = some true := by
  unfold f15_l_sameFloat
  simp only [fne_feq]
  cases h : feq FloatKind.f64 y y
  · simp [br]
  · cases h0 : feq FloatKind.f64 y 0 <;> simp [br]

/-- equal to itself -/
theorem eq_loop (n : Nat) (xs : List Nat) (hx : xs.length ≤ 2147483648) : ∀ (j i m : Nat), i + j = xs.length → j < m →
    f12_l_eqFloat32S.l0 (n + 1) m xs.length (fls .f32 xs) xs.length (fls .f32 xs) (i : Int) = some (Sum.inr ()) := by
  intro j
  induction j with
  | zero =>
    intro i m hi hm
    obtain ⟨m, rfl⟩ : ∃ k, m = k + 1 := ⟨m - 1, by omega⟩
    rw [f12_l_eqFloat32S.l0, nlt_dec (by omega)]
    rfl
  | succ j ih =>
    intro i m hi hm
    obtain ⟨m, rfl⟩ : ∃ k, m = k + 1 := ⟨m - 1, by omega⟩
    have hlt : i < xs.length := by omega
    rw [f12_l_eqFloat32S.l0, lt_dec hlt, in_dec hlt, Int.toNat_natCast, okAt_fls hlt, wrap_succ (by omega), fltToFlt_wide]
    simp only [br, gd, bd, Bool.and_self, same_self, Bool.not_true]
    exact ih (i + 1) m (by omega) (by omega)

theorem eq_self (n : Nat) (xs : List Nat) (hx : xs.length ≤ 2147483648) (hn : xs.length < n + 1) : f12_l_eqFloat32S (n + 2) xs.length (fls .f32 xs) xs.length (fls .f32 xs) = some true := by
  rw [f12_l_eqFloat32S]
  have h := eq_loop n xs hx xs.length 0 (n + 1) (by omega) hn
  rw [show ((0 : Nat) : Int) = 0 from rfl] at h
  rw [h, show (((xs.length : Nat) : Int) != ((xs.length : Nat) : Int)) = false by simp]
  rfl

/-- both dots alike -/
theorem dot_loop (n n' : Nat) (xs ys : List Nat) (hl : ys.length = xs.length) (hx : xs.length ≤ 2147483648) : ∀ (j i m m' s : Nat), i + j = xs.length → j < m → j < m' →
    ∃ r, f53_s_l01Dot.l0 n m xs.length (fls .f32 xs) ys.length (fls .f32 ys) s (i : Int) = some r ∧ f52_i_dot.l0 n' m' xs.length (fls .f32 xs) ys.length (fls .f32 ys) s (xs.length : Int) (i : Int) = some r := by
  intro j
  induction j with
  | zero =>
    intro i m m' s hi hm hm'
    obtain ⟨m, rfl⟩ : ∃ k, m = k + 1 := ⟨m - 1, by omega⟩
    obtain ⟨m', rfl⟩ : ∃ k, m' = k + 1 := ⟨m' - 1, by omega⟩
    refine ⟨s, ?_, ?_⟩
    · rw [f53_s_l01Dot.l0, nlt_dec (by omega)]; rfl
    · rw [f52_i_dot.l0, nlt_dec (by omega)]; rfl
  | succ j ih =>
    intro i m m' s hi hm hm'
    obtain ⟨m, rfl⟩ : ∃ k, m = k + 1 := ⟨m - 1, by omega⟩
    obtain ⟨m', rfl⟩ : ∃ k, m' = k + 1 := ⟨m' - 1, by omega⟩
    have hlt : i < xs.length := by omega
    have hlt' : i < ys.length := by omega
    rw [f53_s_l01Dot.l0, f52_i_dot.l0, lt_dec hlt, in_dec hlt, in_dec hlt', Int.toNat_natCast, okAt_fls hlt, okAt_fls hlt', wrap_succ (by omega)]
    simp only [gd, br, Bool.and_self]
    exact ih (i + 1) m m' _ (by omega) (by omega) (by omega)
theorem dots (n n' : Nat) (xs ys : List Nat) (hl : ys.length = xs.length) (hx : xs.length ≤ 2147483648) (hn : xs.length < n) (hn' : xs.length < n') :
    ∃ r, f53_s_l01Dot (n + 1) xs.length (fls .f32 xs) ys.length (fls .f32 ys) = some r ∧ f52_i_dot (n' + 1) xs.length (fls .f32 xs) ys.length (fls .f32 ys) = some r := by
  obtain ⟨r, h1, h2⟩ := dot_loop n n' xs ys hl hx xs.length 0 n n' 0 (by omega) hn hn'
  refine ⟨r, ?_, ?_⟩
  · rw [f53_s_l01Dot, show (0 : Int) = ((0 : Nat) : Int) from rfl, h1]; rfl
  · rw [f52_i_dot, show (0 : Int) = ((0 : Nat) : Int) from rfl, h2]; rfl

/-- differences behind a lag, both alike -/
theorem lag_loop (n n' : Nat) (xs : List Nat) (hx : xs.length ≤ 2147483648) (lag w : Nat) (hw : lag + w ≤ xs.length) : ∀ (j m m' : Nat) (acc : List Nat), acc.length + j = w → j < m → j < m' →
    ∃ ys, ys.length = w ∧ f37_s_l10Lag.l0 n m xs.length (fls .f32 xs) (lag : Int) (w : Int) acc.length (fls .f32 acc) (acc.length : Int) = some (ys.length, fls .f32 ys) ∧
      f40_i_lagPower.l0 n' m' xs.length (fls .f32 xs) (lag : Int) (w : Int) acc.length (fls .f32 acc) (acc.length : Int) = some (ys.length, fls .f32 ys) := by
  intro j
  induction j with
  | zero =>
    intro m m' acc hi hm hm'
    obtain ⟨m, rfl⟩ : ∃ k, m = k + 1 := ⟨m - 1, by omega⟩
    obtain ⟨m', rfl⟩ : ∃ k, m' = k + 1 := ⟨m' - 1, by omega⟩
    refine ⟨acc, by omega, ?_, ?_⟩
    · rw [f37_s_l10Lag.l0, nlt_dec (by omega)]; rfl
    · rw [f40_i_lagPower.l0, nlt_dec (by omega)]; rfl
  | succ j ih =>
    intro m m' acc hi hm hm'
    obtain ⟨m, rfl⟩ : ∃ k, m = k + 1 := ⟨m - 1, by omega⟩
    obtain ⟨m', rfl⟩ : ∃ k, m' = k + 1 := ⟨m' - 1, by omega⟩
    have hlt : acc.length < xs.length := by omega
    have hlt' : acc.length + lag < xs.length := by omega
    have hwr : IntKind.i64.wrap ((acc.length : Int) + (lag : Int)) = ((acc.length + lag : Nat) : Int) := by rw [wrap64] <;> omega
    rw [f37_s_l10Lag.l0, f40_i_lagPower.l0, hwr, lt_dec (show acc.length < w by omega), in_dec hlt, in_dec hlt', Int.toNat_natCast, Int.toNat_natCast, okAt_fls hlt, okAt_fls hlt', wrap_succ (by omega),
      show Nat.ble (acc.length + 1) 2147483648 = true by rw [Nat.ble_eq]; omega]
    simp only [gd, br, Bool.and_self]
    have := ih m m' (acc ++ [fsub FloatKind.f32 (fAt (fls .f32 xs) acc.length) (fAt (fls .f32 xs) (acc.length + lag))]) (by simp; omega) (by omega) (by omega)
    simpa [fls, setN, reps] using this
theorem lags (n n' : Nat) (xs : List Nat) (hx : xs.length ≤ 2147483648) (lag w : Nat) (hw : lag + w ≤ xs.length) (hn : xs.length < n) (hn' : xs.length < n') :
    ∃ r, f37_s_l10Lag (n + 2) xs.length (fls .f32 xs) (lag : Int) (w : Int) = some r ∧ f40_i_lagPower (n' + 2) xs.length (fls .f32 xs) (lag : Int) (w : Int) = some r := by
  obtain ⟨ys, hl, h1, h2⟩ := lag_loop (n + 1) (n' + 1) xs hx lag w hw w (n + 1) (n' + 1) [] (by simp) (by omega) (by omega)
  obtain ⟨r, h3, h4⟩ := dots n n' ys ys rfl (by omega) (by omega) (by omega)
  refine ⟨r, ?_, ?_⟩
  · rw [f37_s_l10Lag]
    have h1 : f37_s_l10Lag.l0 (n + 1) (n + 1) xs.length (fls .f32 xs) (lag : Int) (w : Int) 0 (reps 0 [(T.flt FloatKind.f32 0)]) (0 : Int) = some (ys.length, fls .f32 ys) := h1
    rw [h1]
    simp only [bd, h3]
  · rw [f40_i_lagPower]
    have h2 : f40_i_lagPower.l0 (n' + 1) (n' + 1) xs.length (fls .f32 xs) (lag : Int) (w : Int) 0 [] (0 : Int) = some (ys.length, fls .f32 ys) := h2
    rw [h2]
    simp only [bd, h4]

theorem s_in (n : Nat) (a b c : Int) : f36_s_l00In (n + 1) a b c = some (decide (b ≤ a ∧ a ≤ c)) := by
  rw [f36_s_l00In]
  by_cases h : b ≤ a <;> simp [br, h]
theorem i_in (n : Nat) (a b c : Int) : f39_i_within (n + 1) a b c = some (decide (b ≤ a ∧ a ≤ c)) := by
  rw [f39_i_within]
  by_cases h : b ≤ a <;> simp [br, h]

theorem s_few (n k : Nat) (l : List T) : f34_s_l01Few (n + 1) k l = some (decide ((k : Int) ≤ 256)) := by rw [f34_s_l01Few]
theorem i_few (n k : Nat) (l : List T) : f35_i_areSamples (n + 1) k l = some (decide ((k : Int) ≤ 256)) := by rw [f35_i_areSamples]

/-- what both loops hold -/
def Rel (p q : Int) (x : Nat) : Prop := (p = 0 ∧ q = -1 ∧ x = 0) ∨ (p = q ∧ 0 < p)
theorem pitch_loop (n n' : Nat) (xs : List Nat) (hx : xs.length ≤ 1048576) (hi : Nat) (hh : hi < xs.length) (hn : xs.length < n) (hn' : xs.length < n') : ∀ (j i m m' : Nat) (p q : Int) (x : Nat), Rel p q x → 1 ≤ i → i + j = hi + 1 → j < m → j < m' →
    ∃ p' q' x', Rel p' q' x' ∧ f32_s_PitchOf.l0 (n + 2) m xs.length (fls .f32 xs) (hi : Int) (xs.length : Int) p x (i : Int) = some (p', x') ∧ f33_i_PitchOf.l0 (n' + 2) m' xs.length (fls .f32 xs) (hi : Int) (xs.length : Int) q x (i : Int) = some (q', x') := by
  intro j
  induction j with
  | zero =>
    intro i m m' p q x hr h1 he hm hm'
    obtain ⟨m, rfl⟩ : ∃ k, m = k + 1 := ⟨m - 1, by omega⟩
    obtain ⟨m', rfl⟩ : ∃ k, m' = k + 1 := ⟨m' - 1, by omega⟩
    refine ⟨p, q, x, hr, ?_, ?_⟩
    · rw [f32_s_PitchOf.l0, decide_eq_false (show ¬ ((i : Int) ≤ (hi : Int)) by omega)]; rfl
    · rw [f33_i_PitchOf.l0, decide_eq_false (show ¬ ((i : Int) ≤ (hi : Int)) by omega)]; rfl
  | succ j ih =>
    intro i m m' p q x hr h1 he hm hm'
    obtain ⟨m, rfl⟩ : ∃ k, m = k + 1 := ⟨m - 1, by omega⟩
    obtain ⟨m', rfl⟩ : ∃ k, m' = k + 1 := ⟨m' - 1, by omega⟩
    obtain ⟨y, e1, e2⟩ := lags n n' xs (by omega) i (xs.length - hi) (by omega) hn hn'
    rw [f32_s_PitchOf.l0, f33_i_PitchOf.l0, decide_eq_true (show (i : Int) ≤ (hi : Int) by omega), show IntKind.i64.wrap ((xs.length : Int) - (hi : Int)) = ((xs.length - hi : Nat) : Int) by rw [wrap64] <;> omega, e1, e2, wrap_succ (by omega)]
    simp only [br, bd]
    cases h : feq FloatKind.f32 y y
    · exact ih (i + 1) m m' p q x hr (by omega) (by omega) (by omega) (by omega)
    · rcases hr with ⟨rfl, rfl, rfl⟩ | ⟨rfl, hp⟩
      · exact ih (i + 1) m m' (i : Int) (i : Int) y (.inr ⟨rfl, by omega⟩) (by omega) (by omega) (by omega) (by omega)
      · rw [show (p == (0 : Int)) = false by simp; omega, decide_eq_false (show ¬ (p < 0) by omega)]
        simp only
        cases h2 : flt FloatKind.f32 y x
        · exact ih (i + 1) m m' p p x (.inr ⟨rfl, hp⟩) (by omega) (by omega) (by omega) (by omega)
        · exact ih (i + 1) m m' (i : Int) (i : Int) y (.inr ⟨rfl, by omega⟩) (by omega) (by omega) (by omega) (by omega)

theorem both (n n' : Nat) (xs : List Nat) (a b : Int) (hn : xs.length < n) (hn' : xs.length < n') (ha : GoodI .i64 a) (hb : GoodI .i64 b) (hx : xs.length ≤ 1048576) :
    ∃ r, f32_s_PitchOf (n + 3) xs.length (fls .f32 xs) a b = some r ∧ f33_i_PitchOf (n' + 3) xs.length (fls .f32 xs) a b = some r := by
  have hw : IntKind.i64.wrap ((xs.length : Int) - 1) = (xs.length : Int) - 1 := by rw [wrap64] <;> omega
  rw [f32_s_PitchOf, f33_i_PitchOf, f38_i_size]
  simp only [s_few, i_few, s_in, i_in, bd, hw]
  by_cases h0 : (xs.length : Int) ≤ 256
  case neg => rw [decide_eq_false h0]; exact ⟨_, rfl, rfl⟩
  rw [decide_eq_true h0]
  by_cases hk : 1 ≤ a ∧ a ≤ b ∧ b ≤ (xs.length : Int) - 1
  case neg =>
    refine ⟨(0, 0, false), ?_, ?_⟩
    · by_cases h1 : a < 1
      · rw [decide_eq_true h1]; rfl
      · rw [decide_eq_false h1, decide_eq_false (show ¬ (a ≤ b ∧ b ≤ (xs.length : Int) - 1) by omega)]; rfl
    · by_cases h3 : 1 ≤ a ∧ a ≤ (xs.length : Int) - 1
      · rw [decide_eq_true h3, decide_eq_false (show ¬ (a ≤ b ∧ b ≤ (xs.length : Int) - 1) by omega)]; rfl
      · rw [decide_eq_false h3]; rfl
  rw [decide_eq_false (show ¬ a < 1 by omega), decide_eq_true (show a ≤ b ∧ b ≤ (xs.length : Int) - 1 by omega), decide_eq_true (show 1 ≤ a ∧ a ≤ (xs.length : Int) - 1 by omega)]
  obtain ⟨lo, rfl⟩ := Int.eq_ofNat_of_zero_le (show 0 ≤ a by omega)
  obtain ⟨hi, rfl⟩ := Int.eq_ofNat_of_zero_le (show 0 ≤ b by omega)
  obtain ⟨p, q, x, hr, e1, e2⟩ := pitch_loop n n' xs hx hi (by omega) hn hn' (hi + 1 - lo) lo (n + 2) (n' + 2) 0 (-1) 0 (.inl ⟨rfl, rfl, rfl⟩) (by omega) (by omega) (by omega) (by omega)
  simp only [Bool.not_true, br, e1, e2]
  rcases hr with ⟨rfl, rfl, rfl⟩ | ⟨rfl, hp⟩
  · exact ⟨_, rfl, rfl⟩
  · rw [decide_eq_false (show ¬ p < 0 by omega), decide_eq_true (show p > 0 from hp)]
    exact ⟨_, rfl, rfl⟩

theorem exact_ (xs : List Nat) (hg : ∀ x ∈ xs, GoodF .f32 x) (hl : xs.length ≤ maxLen) (a : Int) (ha : GoodI .i64 a) (b : Int) (hb : GoodI .i64 b) : ∃ n, f8_l_FnExactPitchOf n xs.length (fls .f32 xs) a b = some true := by
  refine ⟨xs.length + 5, ?_⟩
  rw [f8_l_FnExactPitchOf]
  cases h : decide (((xs.length : Nat) : Int) > (1048576 : Int))
  · have hx : xs.length ≤ 1048576 := by simp at h; omega
    obtain ⟨⟨i, x, c⟩, h1, h2⟩ := both (xs.length + 1) (xs.length + 1) xs a b (by omega) (by omega) ha hb hx
    simp only [br, copied (xs.length + 3) xs hx (by omega), bd, h1, h2, bne_self_eq_false, fltToFlt_wide, same_self, beq_self_eq_true, Bool.not_true, eq_self (xs.length + 2) xs (by omega) (by omega)]
  · rfl
theorem law8 : ∀ args, LawArgs E Try.f8.params.toList args → ∃ N os, evalFn E N 8 args = some ⟨[⟨false, [.leaf], [.bool true]⟩], os⟩ := by
  intro args h0
  have hp : Try.f8.params.toList = [22, 2, 2] := by kernel_rfl
  rw [hp] at h0
  obtain ⟨ts0, r0, rfl, hw0, h1⟩ := h0.cons_inv (d := ⟨false, 1, 24, [.sl .own [.leaf]], [.lst 0 []], .slc 28⟩) (by kernel_rfl)
  obtain ⟨n0, cs0, rfl, gl0, hs0⟩ := hw0.slc_inv (e := 28) (d := ⟨false, 1, 24, [.sl .own [.leaf]], [.lst 0 []], .slc 28⟩) (by kernel_rfl) rfl
  obtain ⟨a0, rfl, rfl, g0⟩ := hs0.flts (k := .f32) (d := ⟨false, 1, 4, [.leaf], [.flt .f32 0], .flt .f32⟩) (by kernel_rfl) rfl
  obtain ⟨ts1, r1, rfl, hw1, h2⟩ := h1.cons_inv (d := ⟨false, 1, 8, [.leaf], [.int .i64 0], .int .i64⟩) (by kernel_rfl)
  obtain ⟨a1, rfl, g1⟩ := hw1.int_inv (k := .i64) (d := ⟨false, 1, 8, [.leaf], [.int .i64 0], .int .i64⟩) (by kernel_rfl) rfl
  obtain ⟨ts2, r2, rfl, hw2, h3⟩ := h2.cons_inv (d := ⟨false, 1, 8, [.leaf], [.int .i64 0], .int .i64⟩) (by kernel_rfl)
  obtain ⟨a2, rfl, g2⟩ := hw2.int_inv (k := .i64) (d := ⟨false, 1, 8, [.leaf], [.int .i64 0], .int .i64⟩) (by kernel_rfl) rfl
  obtain rfl := h3.nil_inv
  obtain ⟨N, hN⟩ := exact_ a0 g0 gl0 a1 g1 a2 g2
  exact ⟨N, _, f8_l_FnExactPitchOf.ok N (a0.length, fls .f32 a0, a1, a2) true hN⟩


end Go.Proofs.Ytcadjmbpmbdliaa.D
end
section
/- FnExactPitchOf holds: for every input the law returns true, and its arguments read as before. -/
namespace Go.Proofs.Ytcadjmbpmbdliaa.fnExactPitchOf
open Go Go.ChangeShapes Go.WideShapes Go.ChangeAt Go.RowKit Go.Desk
set_option linter.unusedVariables false
theorem own : ownKnob Try.prog.godebug = none := by kernel_rfl
theorem laidOut : laidOutB Try.prog = true := by kernel_rfl
set_option maxRecDepth 100000 in
theorem lifted (os : Os) (started : os.Started) (H : Type) (enc : TypeId × Value → H) :
    ReturnsInHanded {} Try.checked os 8 .any (Rows.fnExactPitchOfSpec.pre6 enc Try.prog Try.f8 Rows.fnExactPitchOfRow.domain false) (Rows.fnExactPitchOfSpec.post enc Try.prog Try.f8 false true false false) := by
  refine returnsInHanded_of_change (C := Try.checked) own started (by kernel_rfl) Try.func8
    (ChangeSpec.witness6 (enc := enc) (C := Try.checked) false ⟨#[], #[.slice none 0 0, .int .i64 0, .int .i64 0], []⟩ 8 (by kernel_rfl) (by kernel_rfl) (by kernel_rfl) (by kernel_rfl)) ?_
  intro W base args ds gs before hval hW hcnd _
  exact law_contract (c := D.c8) Try.checked.mixed D.tysOk D.fnOk Try.func8 (by kernel_rfl) (by kernel_rfl) (by kernel_rfl) Try.underlying4 rfl
    (fun ds h => by
      rw [show Try.f8.params.toList.length = 3 by kernel_rfl] at h
      match ds, h with
      | [_, _, _], _ => rfl)
    laidOut (N := 8) (by kernel_rfl) (by kernel_rfl) D.law8 hval hW
theorem over : Rows.fnExactPitchOfRow.holds Try.pinned (OpenSpec.ofChange Rows.fnExactPitchOfSpec) :=
  OpenClaim.holds_of_wide 8 Try.f8 rfl rfl rfl rfl rfl rfl rfl ⟨rfl, rfl, rfl, rfl, rfl⟩ rfl rfl rfl rfl rfl (by kernel_rfl) Try.func8 (by kernel_rfl)
    (of_decide_eq_true (by kernel_rfl)) (by unfold Func.isWrapper; first | (rw [if_pos (by decide +kernel)]; kernel_rfl) | (rw [if_neg (by decide +kernel)]; exact ⟨rfl, rfl⟩))
    (fun os started H enc _ => lifted os started H enc)
theorem proved : Rows.FnExactPitchOfSaid := over
#print axioms proved
end Go.Proofs.Ytcadjmbpmbdliaa.fnExactPitchOf
namespace Go.Proofs.Ytcadjmbpmbdliaa
/-- The row, under a short name, for the claim. -/
theorem fnExactPitchOf_holds : Rows.FnExactPitchOfSaid := fnExactPitchOf.proved
end Go.Proofs.Ytcadjmbpmbdliaa
end
