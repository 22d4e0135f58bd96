/- FnExactBalanceOf holds: for every input the law returns true, and its arguments read as before. -/
import Derived.Test.YtklihgoobdbamaaChecked
import Derived.Test.YtklihgoobdbamaaDeskE
import Derived.KernelRfl
import Derived.Test.YtklihgoobdbamaaRows
import Derived.WalkKit
import Derived.ProofKit
import Derived.OpenShut
import Derived.ShutString
import Derived.ChangeOld
import Derived.Below
import Derived.SizedLaws
set_option linter.all false
section
/- The tables of the reading: types and functions of the translation, with what is kept at each region's beginning (written by a program of this workplace). -/
namespace Go.Proofs.Ytklihgoobdbamaa.D
open Go Go.Desk
def bodyOf (f : Func) : Code := match f.body with
  | some c => c
  | none => .skip
def tyTab : List (Nat × TD) := [
  (3, ⟨false, 1, 8, [.leaf], [.int .i64 0], .int .i64⟩),
  (4, ⟨false, 1, 1, [.leaf], [.bool false], .bool⟩),
  (22, ⟨false, 1, 4, [.leaf], [.flt .f32 0], .flt .f32⟩),
  (26, ⟨false, 1, 24, [.sl .own [.leaf]], [.lst 0 []], .slc 22⟩),
  (31, ⟨false, 1, 8, [.leaf], [.flt .f64 0], .flt .f64⟩)]
noncomputable def c7 : Code := bodyOf Try.f7
noncomputable def c13 : Code := bodyOf Try.f13
noncomputable def c15 : Code := bodyOf Try.f15
noncomputable def c16 : Code := bodyOf Try.f16
noncomputable def c25 : Code := bodyOf Try.f25
noncomputable def c26 : Code := bodyOf Try.f26
noncomputable def c45 : Code := bodyOf Try.f45
noncomputable def c46 : Code := bodyOf Try.f46
noncomputable def c47 : Code := bodyOf Try.f47
noncomputable def c48 : Code := bodyOf Try.f48
noncomputable def c49 : Code := bodyOf Try.f49
noncomputable def c50 : Code := bodyOf Try.f50
noncomputable def c51 : Code := bodyOf Try.f51
noncomputable def c54 : Code := bodyOf Try.f54
noncomputable def c61 : Code := bodyOf Try.f61
noncomputable def c62 : Code := bodyOf Try.f62
noncomputable def c78 : Code := bodyOf Try.f78
noncomputable def c79 : Code := bodyOf Try.f79
noncomputable def fnTab : List (Nat × FD) := [
  (7, .code c7 [.val, .val] [] [(4, none)] [(0, [0, 1]), (1, [0, 1]), (2, []), (3, [0, 1]), (4, []), (5, [0, 1]), (6, [0, 1, 5, 6]), (7, [0, 1, 5, 6, 7]), (8, [0, 1, 5, 6, 7, 8]), (9, [0, 1, 5, 6, 7, 8, 9, 10]), (10, []), (11, [0, 1, 7, 8]), (12, []), (13, [1, 8]), (14, []), (15, [])]),
  (13, .code c13 [.val] [] [(2, none)] [(0, [0]), (1, [0]), (2, [0, 3]), (3, [0, 3, 4]), (4, [0, 3, 4]), (5, [0, 3, 4]), (6, [3]), (1000003, [3])]),
  (15, .code c15 [.val, .val] [] [(4, none)] [(0, [0, 1]), (1, [0, 1]), (2, [0, 1]), (3, [0, 1]), (4, [0, 1]), (5, [0, 1])]),
  (16, .code c16 [.val, .val] [] [(4, none)] [(0, [0, 1]), (1, [0, 1]), (2, []), (3, [0, 1]), (4, [0, 1, 5]), (5, [0, 1, 5]), (6, [0, 1, 5]), (7, []), (8, []), (1000004, [4])]),
  (25, .code c25 [.val, .val] [] [(4, none), (5, none)] [(0, [0, 1]), (1, [0, 1]), (2, []), (3, [0, 1]), (4, [1, 6]), (5, [6, 8]), (6, []), (7, [6, 8])]),
  (26, .code c26 [.val, .val] [] [(4, none), (5, none)] [(0, [0, 1]), (1, [0, 1]), (2, []), (3, [0, 1]), (4, [1, 6]), (5, [6, 8]), (6, []), (7, [6, 8])]),
  (45, .code c45 [.val, .val] [] [(4, none)] [(0, [0, 1]), (1, [0, 1])]),
  (46, .code c46 [.val, .val] [] [(4, none)] [(0, [0, 1]), (1, [0, 1]), (2, [0, 1, 5]), (3, [0, 1, 5, 6]), (4, [0, 1, 5, 6]), (5, [0, 1, 5, 6]), (6, [5]), (1000003, [5])]),
  (47, .code c47 [.val] [] [(2, none)] [(0, [0]), (1, [0])]),
  (48, .code c48 [.val, .val] [] [(4, none)] [(0, [0, 1]), (1, [0, 1])]),
  (49, .code c49 [.val, .val] [] [(4, none)] [(0, [0, 1]), (1, [0, 1]), (2, [0, 1, 5]), (3, [0, 1, 5, 8, 9]), (4, [0, 1, 5, 8, 9]), (5, [0, 1, 5, 6, 8, 9]), (6, [0, 1, 5, 8, 9]), (7, [5]), (1000003, [5])]),
  (50, .code c50 [.val] [] [(2, none)] [(0, [0]), (1, [0])]),
  (51, .code c51 [.val] [] [(2, none)] [(0, [0]), (1, [0])]),
  (54, .code c54 [.val] [] [(2, none)] [(0, [0]), (1, [0])]),
  (61, .code c61 [.val] [] [(2, none), (3, none)] [(0, [0]), (1, [0]), (2, []), (3, [0])]),
  (62, .code c62 [.val] [] [(2, none), (3, none)] [(0, [0]), (1, [0]), (2, []), (3, [0])]),
  (78, .code c78 [.val] [] [(2, none)] [(0, [0]), (1, [0])]),
  (79, .code c79 [.val] [] [(2, none)] [(0, [0]), (1, [0])]),
  (92, .ext (pSqrt))]
noncomputable def E : Env := ⟨fun t => lookT tyTab t, lookF fnTab⟩
noncomputable def fdAt (n : Nat) : FD := match lookF fnTab n with
  | some d => d
  | none => .ext fun _ => none
noncomputable def keepAt (n : Nat) : List (Nat × List Nat) := match lookF fnTab n with
  | some d => d.keep
  | none => []
theorem tysOk : TysOk Try.prog E := tysOk_of (l := tyTab) (fun _ => rfl) (by kernel_rfl)
theorem ft7 : FnTab Try.prog E 7 (fdAt 7) := fnTab_code (c := c7) (modes := (fdAt 7).ms) (outs := (fdAt 7).os) (results := (fdAt 7).rs) (keep := (fdAt 7).keep) Try.func7 (by kernel_rfl) (by kernel_rfl) (by kernel_rfl)
theorem ft13 : FnTab Try.prog E 13 (fdAt 13) := fnTab_code (c := c13) (modes := (fdAt 13).ms) (outs := (fdAt 13).os) (results := (fdAt 13).rs) (keep := (fdAt 13).keep) Try.func13 (by kernel_rfl) (by kernel_rfl) (by kernel_rfl)
theorem ft15 : FnTab Try.prog E 15 (fdAt 15) := fnTab_code (c := c15) (modes := (fdAt 15).ms) (outs := (fdAt 15).os) (results := (fdAt 15).rs) (keep := (fdAt 15).keep) Try.func15 (by kernel_rfl) (by kernel_rfl) (by kernel_rfl)
theorem ft16 : FnTab Try.prog E 16 (fdAt 16) := fnTab_code (c := c16) (modes := (fdAt 16).ms) (outs := (fdAt 16).os) (results := (fdAt 16).rs) (keep := (fdAt 16).keep) Try.func16 (by kernel_rfl) (by kernel_rfl) (by kernel_rfl)
theorem ft25 : FnTab Try.prog E 25 (fdAt 25) := fnTab_code (c := c25) (modes := (fdAt 25).ms) (outs := (fdAt 25).os) (results := (fdAt 25).rs) (keep := (fdAt 25).keep) Try.func25 (by kernel_rfl) (by kernel_rfl) (by kernel_rfl)
theorem ft26 : FnTab Try.prog E 26 (fdAt 26) := fnTab_code (c := c26) (modes := (fdAt 26).ms) (outs := (fdAt 26).os) (results := (fdAt 26).rs) (keep := (fdAt 26).keep) Try.func26 (by kernel_rfl) (by kernel_rfl) (by kernel_rfl)
theorem ft45 : FnTab Try.prog E 45 (fdAt 45) := fnTab_code (c := c45) (modes := (fdAt 45).ms) (outs := (fdAt 45).os) (results := (fdAt 45).rs) (keep := (fdAt 45).keep) Try.func45 (by kernel_rfl) (by kernel_rfl) (by kernel_rfl)
theorem ft46 : FnTab Try.prog E 46 (fdAt 46) := fnTab_code (c := c46) (modes := (fdAt 46).ms) (outs := (fdAt 46).os) (results := (fdAt 46).rs) (keep := (fdAt 46).keep) Try.func46 (by kernel_rfl) (by kernel_rfl) (by kernel_rfl)
theorem ft47 : FnTab Try.prog E 47 (fdAt 47) := fnTab_code (c := c47) (modes := (fdAt 47).ms) (outs := (fdAt 47).os) (results := (fdAt 47).rs) (keep := (fdAt 47).keep) Try.func47 (by kernel_rfl) (by kernel_rfl) (by kernel_rfl)
theorem ft48 : FnTab Try.prog E 48 (fdAt 48) := fnTab_code (c := c48) (modes := (fdAt 48).ms) (outs := (fdAt 48).os) (results := (fdAt 48).rs) (keep := (fdAt 48).keep) Try.func48 (by kernel_rfl) (by kernel_rfl) (by kernel_rfl)
theorem ft49 : FnTab Try.prog E 49 (fdAt 49) := fnTab_code (c := c49) (modes := (fdAt 49).ms) (outs := (fdAt 49).os) (results := (fdAt 49).rs) (keep := (fdAt 49).keep) Try.func49 (by kernel_rfl) (by kernel_rfl) (by kernel_rfl)
theorem ft50 : FnTab Try.prog E 50 (fdAt 50) := fnTab_code (c := c50) (modes := (fdAt 50).ms) (outs := (fdAt 50).os) (results := (fdAt 50).rs) (keep := (fdAt 50).keep) Try.func50 (by kernel_rfl) (by kernel_rfl) (by kernel_rfl)
theorem ft51 : FnTab Try.prog E 51 (fdAt 51) := fnTab_code (c := c51) (modes := (fdAt 51).ms) (outs := (fdAt 51).os) (results := (fdAt 51).rs) (keep := (fdAt 51).keep) Try.func51 (by kernel_rfl) (by kernel_rfl) (by kernel_rfl)
theorem ft54 : FnTab Try.prog E 54 (fdAt 54) := fnTab_code (c := c54) (modes := (fdAt 54).ms) (outs := (fdAt 54).os) (results := (fdAt 54).rs) (keep := (fdAt 54).keep) Try.func54 (by kernel_rfl) (by kernel_rfl) (by kernel_rfl)
theorem ft61 : FnTab Try.prog E 61 (fdAt 61) := fnTab_code (c := c61) (modes := (fdAt 61).ms) (outs := (fdAt 61).os) (results := (fdAt 61).rs) (keep := (fdAt 61).keep) Try.func61 (by kernel_rfl) (by kernel_rfl) (by kernel_rfl)
theorem ft62 : FnTab Try.prog E 62 (fdAt 62) := fnTab_code (c := c62) (modes := (fdAt 62).ms) (outs := (fdAt 62).os) (results := (fdAt 62).rs) (keep := (fdAt 62).keep) Try.func62 (by kernel_rfl) (by kernel_rfl) (by kernel_rfl)
theorem ft78 : FnTab Try.prog E 78 (fdAt 78) := fnTab_code (c := c78) (modes := (fdAt 78).ms) (outs := (fdAt 78).os) (results := (fdAt 78).rs) (keep := (fdAt 78).keep) Try.func78 (by kernel_rfl) (by kernel_rfl) (by kernel_rfl)
theorem ft79 : FnTab Try.prog E 79 (fdAt 79) := fnTab_code (c := c79) (modes := (fdAt 79).ms) (outs := (fdAt 79).os) (results := (fdAt 79).rs) (keep := (fdAt 79).keep) Try.func79 (by kernel_rfl) (by kernel_rfl) (by kernel_rfl)
theorem ft92 : FnTab Try.prog E 92 (.ext (pSqrt)) := ext_pSqrt Try.func92 (by kernel_rfl) (by kernel_rfl) (by kernel_rfl) (by kernel_rfl)
theorem allFns : AllFns Try.prog E fnTab := .cons ft7 (.cons ft13 (.cons ft15 (.cons ft16 (.cons ft25 (.cons ft26 (.cons ft45 (.cons ft46 (.cons ft47 (.cons ft48 (.cons ft49 (.cons ft50 (.cons ft51 (.cons ft54 (.cons ft61 (.cons ft62 (.cons ft78 (.cons ft79 (.cons ft92 (.nil)))))))))))))))))))
theorem fnOk : ∀ f fd, E.fn f = some fd → FnTab Try.prog E f fd := fnTab_of (l := fnTab) (fun _ => rfl) allFns
end Go.Proofs.Ytklihgoobdbamaa.D
end
section
/- Plain functions for the law's Go functions, each tied to the reading by the kernel (printed by a program of this workplace). -/
namespace Go.Proofs.Ytklihgoobdbamaa.D
open Go Go.Desk
set_option linter.unusedVariables false
noncomputable def x92.w : FnW E := xSqrt.w 92 (by kernel_rfl)

def f13_l_toFloat32S.l0 (n : Nat) : Nat → Nat → List T → Nat → List T → Int → Option (Nat × List T)
  | 0, _, _, _, _, _ => none
  | m + 1, n1, l2, n3, l4, i5 =>
    br (decide (i5 < ((n1 : Nat) : Int))) (
     gd ((decide (((0 : Int) ≤ i5) ∧ (i5 < ((n1 : Nat) : Int)))) && (okAt [(CK.flt FloatKind.f32)] l2 (Int.toNat i5))) (
     gd (decide (((0 : Int) ≤ i5) ∧ (i5 < ((n3 : Nat) : Int)))) (
     gd (Nat.ble ((Int.toNat i5) + 1) (List.length l4)) (
     let l6 : List T := (setN l4 (Int.toNat i5) [(T.flt FloatKind.f32 (fAt l2 (Int.toNat i5)))])
     f13_l_toFloat32S.l0 n m n1 l2 n3 l6 (IntKind.i64.wrap (i5 + (1 : Int))))))) (
     some (n3, l4))
def f13_l_toFloat32S : Nat → Nat → List T → Option (Nat × List T)
  | 0, _, _ => none
  | n + 1, n1, l2 =>
    gd (decide (((0 : Int) ≤ ((n1 : Nat) : Int)) ∧ (((n1 : Nat) : Int) ≤ (2147483648 : Int)))) (
    let l3 : List T := (reps n1 [(T.flt FloatKind.f32 0)])
    bd (f13_l_toFloat32S.l0 n n n1 l2 n1 l3 (0 : Int)) fun r4 =>
    let n5 : Nat := r4.1
    let l6 : List T := r4.2
    some (n5, l6))
def sg_l : Sig (Nat × List T) where
  pk := fun v => [.lst v.1 v.2]
  up := fun ls => match ls with
    | [.lst a0 a1] => some (a0, a1)
    | _ => none
  ok := by
    intro ls v h
    split at h
    · cases h; rfl
    · cases h

def sg_lli : Sig (Nat × List T × Nat × List T × Int) where
  pk := fun v => [.lst v.1 v.2.1, .lst v.2.2.1 v.2.2.2.1, .int v.2.2.2.2]
  up := fun ls => match ls with
    | [.lst a0 a1, .lst a2 a3, .int a4] => some (a0, a1, a2, a3, a4)
    | _ => none
  ok := by
    intro ls v h
    split at h
    · cases h; rfl
    · cases h

def f13_l_toFloat32S.l0.P : AS := ⟨[(0, .val false [.sl .shr [.leaf]] [.lst 0 []] [] 0), (3, .val false [.sl .own [.leaf]] [.lst 0 []] [] 0), (4, .val false [.leaf] [.int .i64 0] [] 0)], 0⟩
def f13_l_toFloat32S.l0.A : Alt (Nat × List T) := .one (.exit 0) ⟨[(3, .val false [.sl .own [.leaf]] [.lst 0 []] [] 0)], 0⟩ sg_l
def f13_l_toFloat32S.l0.F (n m : Nat) (v : Nat × List T × Nat × List T × Int) := f13_l_toFloat32S.l0 n m v.1 v.2.1 v.2.2.1 v.2.2.2.1 v.2.2.2.2
def f13_l_toFloat32S.l0.W (n : Nat) : LpW := .of 48 f13_l_toFloat32S.l0.P sg_lli f13_l_toFloat32S.l0.A (f13_l_toFloat32S.l0.F n n)
def f13_l_toFloat32S.P : List Arg := [⟨.val, ⟨false, [.sl .shr [.leaf]], [.lst 0 []]⟩⟩]
def f13_l_toFloat32S.A : RAlt (Nat × List T) := .one ⟨[⟨false, [.sl .own [.leaf]], [.lst 0 []]⟩], [none]⟩ sg_l
def f13_l_toFloat32S.F (n : Nat) (v : Nat × List T) := f13_l_toFloat32S n v.1 v.2
noncomputable def f13_l_toFloat32S.O (n : Nat) : Orc := orcOf (E := E) [] [f13_l_toFloat32S.l0.W n] n
theorem f13_l_toFloat32S.l0.ok (n : Nat) : LpOk (f13_l_toFloat32S.O n) E (evalFn E n) n (keepAt 13) (.loop (loopAt c13 0)) :=
  lp_pure f13_l_toFloat32S.l0.P sg_lli f13_l_toFloat32S.l0.A (f13_l_toFloat32S.l0.F n) (orcOf_cf _ _ n) (lpOk_of (bs := []) (by kernel_rfl) .nil) (fun _ => rfl) (fun _ _ => by kernel_rfl) (fun _ _ _ => by kernel_rfl)
theorem f13_l_toFloat32S.ok : ∀ n v x, f13_l_toFloat32S.F n v = some x → evalFn E n 13 (flAs f13_l_toFloat32S.P (sg_l.pk v)) = some (f13_l_toFloat32S.A.enc x) :=
  fn_pure (modes := (fdAt 13).ms) (outs := (fdAt 13).os) (results := (fdAt 13).rs) f13_l_toFloat32S.O (c := c13) (keep := keepAt 13) (by kernel_rfl) (fun n => orcOf_cf _ _ n) (fun n => lpOk_of (bs := [loopAt c13 0]) (by kernel_rfl) (.cons (f13_l_toFloat32S.l0.ok n) .nil)) (fun _ => rfl) (fun _ _ => by kernel_rfl)
noncomputable def f13_l_toFloat32S.w : FnW E := fnW 13 f13_l_toFloat32S.P sg_l f13_l_toFloat32S.A f13_l_toFloat32S.F f13_l_toFloat32S.ok

def f51_s_l01Few : Nat → Nat → List T → Option (Bool)
  | 0, _, _ => none
  | n + 1, n1, l2 =>
    some (decide (((n1 : Nat) : Int) ≤ (256 : Int)))
def sg_b : Sig (Bool) where
  pk := fun v => [.bool v]
  up := fun ls => match ls with
    | [.bool a0] => some a0
    | _ => none
  ok := by
    intro ls v h
    split at h
    · cases h; rfl
    · cases h

def f51_s_l01Few.P : List Arg := [⟨.val, ⟨false, [.sl .shr [.leaf]], [.lst 0 []]⟩⟩]
def f51_s_l01Few.A : RAlt (Bool) := .one ⟨[⟨false, [.leaf], [.bool false]⟩], [none]⟩ sg_b
def f51_s_l01Few.F (n : Nat) (v : Nat × List T) := f51_s_l01Few n v.1 v.2
noncomputable def f51_s_l01Few.O (n : Nat) : Orc := orcOf (E := E) [] [] n
theorem f51_s_l01Few.ok : ∀ n v x, f51_s_l01Few.F n v = some x → evalFn E n 51 (flAs f51_s_l01Few.P (sg_l.pk v)) = some (f51_s_l01Few.A.enc x) :=
  fn_pure (modes := (fdAt 51).ms) (outs := (fdAt 51).os) (results := (fdAt 51).rs) f51_s_l01Few.O (c := c51) (keep := keepAt 51) (by kernel_rfl) (fun n => orcOf_cf _ _ n) (fun n => lpOk_of (bs := []) (by kernel_rfl) .nil) (fun _ => rfl) (fun _ _ => by kernel_rfl)
noncomputable def f51_s_l01Few.w : FnW E := fnW 51 f51_s_l01Few.P sg_l f51_s_l01Few.A f51_s_l01Few.F f51_s_l01Few.ok

def f45_s_l10Two : Nat → Nat → List T → Nat → List T → Option (Bool)
  | 0, _, _, _, _ => none
  | n + 1, n1, l2, n3, l4 =>
    bd (f51_s_l01Few n n1 l2) fun r5 =>
    let b6 : Bool := r5
    br b6 (
     br (decide (((n1 : Nat) : Int) > (0 : Int))) (
      some (((n1 : Nat) : Int) == ((n3 : Nat) : Int))) (
      some false)) (
     some false)
def sg_ll : Sig (Nat × List T × Nat × List T) where
  pk := fun v => [.lst v.1 v.2.1, .lst v.2.2.1 v.2.2.2]
  up := fun ls => match ls with
    | [.lst a0 a1, .lst a2 a3] => some (a0, a1, a2, a3)
    | _ => none
  ok := by
    intro ls v h
    split at h
    · cases h; rfl
    · cases h

def f45_s_l10Two.P : List Arg := [⟨.val, ⟨false, [.sl .shr [.leaf]], [.lst 0 []]⟩⟩, ⟨.val, ⟨false, [.sl .shr [.leaf]], [.lst 0 []]⟩⟩]
def f45_s_l10Two.A : RAlt (Bool) := .one ⟨[⟨false, [.leaf], [.bool false]⟩], [none, none]⟩ sg_b
def f45_s_l10Two.F (n : Nat) (v : Nat × List T × Nat × List T) := f45_s_l10Two n v.1 v.2.1 v.2.2.1 v.2.2.2
noncomputable def f45_s_l10Two.O (n : Nat) : Orc := orcOf (E := E) [f51_s_l01Few.w] [] n
theorem f45_s_l10Two.ok : ∀ n v x, f45_s_l10Two.F n v = some x → evalFn E n 45 (flAs f45_s_l10Two.P (sg_ll.pk v)) = some (f45_s_l10Two.A.enc x) :=
  fn_pure (modes := (fdAt 45).ms) (outs := (fdAt 45).os) (results := (fdAt 45).rs) f45_s_l10Two.O (c := c45) (keep := keepAt 45) (by kernel_rfl) (fun n => orcOf_cf _ _ n) (fun n => lpOk_of (bs := []) (by kernel_rfl) .nil) (fun _ => rfl) (fun _ _ => by kernel_rfl)
noncomputable def f45_s_l10Two.w : FnW E := fnW 45 f45_s_l10Two.P sg_ll f45_s_l10Two.A f45_s_l10Two.F f45_s_l10Two.ok

def f46_s_l01Dot.l0 (n : Nat) : Nat → Nat → List T → Nat → List T → Nat → Int → Option (Nat)
  | 0, _, _, _, _, _, _ => none
  | m + 1, n1, l2, n3, l4, x5, i6 =>
    br (decide (i6 < ((n1 : Nat) : Int))) (
     gd ((decide (((0 : Int) ≤ i6) ∧ (i6 < ((n1 : Nat) : Int)))) && (okAt [(CK.flt FloatKind.f32)] l2 (Int.toNat i6))) (
     gd ((decide (((0 : Int) ≤ i6) ∧ (i6 < ((n3 : Nat) : Int)))) && (okAt [(CK.flt FloatKind.f32)] l4 (Int.toNat i6))) (
     let x7 : Nat := (fadd FloatKind.f32 x5 (fmul FloatKind.f32 (fAt l2 (Int.toNat i6)) (fAt l4 (Int.toNat i6))))
     f46_s_l01Dot.l0 n m n1 l2 n3 l4 x7 (IntKind.i64.wrap (i6 + (1 : Int)))))) (
     some x5)
def f46_s_l01Dot : Nat → Nat → List T → Nat → List T → Option (Nat)
  | 0, _, _, _, _ => none
  | n + 1, n1, l2, n3, l4 =>
    bd (f46_s_l01Dot.l0 n n n1 l2 n3 l4 0 (0 : Int)) fun r5 =>
    let x6 : Nat := r5
    some x6
def sg_f : Sig (Nat) where
  pk := fun v => [.flt v]
  up := fun ls => match ls with
    | [.flt a0] => some a0
    | _ => none
  ok := by
    intro ls v h
    split at h
    · cases h; rfl
    · cases h

def sg_llfi : Sig (Nat × List T × Nat × List T × Nat × Int) where
  pk := fun v => [.lst v.1 v.2.1, .lst v.2.2.1 v.2.2.2.1, .flt v.2.2.2.2.1, .int v.2.2.2.2.2]
  up := fun ls => match ls with
    | [.lst a0 a1, .lst a2 a3, .flt a4, .int a5] => some (a0, a1, a2, a3, a4, a5)
    | _ => none
  ok := by
    intro ls v h
    split at h
    · cases h; rfl
    · cases h

def f46_s_l01Dot.l0.P : AS := ⟨[(0, .val false [.sl .shr [.leaf]] [.lst 0 []] [] 0), (1, .val false [.sl .shr [.leaf]] [.lst 0 []] [] 0), (5, .val false [.leaf] [.flt .f32 0] [] 0), (6, .val false [.leaf] [.int .i64 0] [] 0)], 0⟩
def f46_s_l01Dot.l0.A : Alt (Nat) := .one (.exit 0) ⟨[(5, .val false [.leaf] [.flt .f32 0] [] 0)], 0⟩ sg_f
def f46_s_l01Dot.l0.F (n m : Nat) (v : Nat × List T × Nat × List T × Nat × Int) := f46_s_l01Dot.l0 n m v.1 v.2.1 v.2.2.1 v.2.2.2.1 v.2.2.2.2.1 v.2.2.2.2.2
def f46_s_l01Dot.l0.W (n : Nat) : LpW := .of 48 f46_s_l01Dot.l0.P sg_llfi f46_s_l01Dot.l0.A (f46_s_l01Dot.l0.F n n)
def f46_s_l01Dot.P : List Arg := [⟨.val, ⟨false, [.sl .shr [.leaf]], [.lst 0 []]⟩⟩, ⟨.val, ⟨false, [.sl .shr [.leaf]], [.lst 0 []]⟩⟩]
def f46_s_l01Dot.A : RAlt (Nat) := .one ⟨[⟨false, [.leaf], [.flt .f32 0]⟩], [none, none]⟩ sg_f
def f46_s_l01Dot.F (n : Nat) (v : Nat × List T × Nat × List T) := f46_s_l01Dot n v.1 v.2.1 v.2.2.1 v.2.2.2
noncomputable def f46_s_l01Dot.O (n : Nat) : Orc := orcOf (E := E) [] [f46_s_l01Dot.l0.W n] n
theorem f46_s_l01Dot.l0.ok (n : Nat) : LpOk (f46_s_l01Dot.O n) E (evalFn E n) n (keepAt 46) (.loop (loopAt c46 0)) :=
  lp_pure f46_s_l01Dot.l0.P sg_llfi f46_s_l01Dot.l0.A (f46_s_l01Dot.l0.F n) (orcOf_cf _ _ n) (lpOk_of (bs := []) (by kernel_rfl) .nil) (fun _ => rfl) (fun _ _ => by kernel_rfl) (fun _ _ _ => by kernel_rfl)
theorem f46_s_l01Dot.ok : ∀ n v x, f46_s_l01Dot.F n v = some x → evalFn E n 46 (flAs f46_s_l01Dot.P (sg_ll.pk v)) = some (f46_s_l01Dot.A.enc x) :=
  fn_pure (modes := (fdAt 46).ms) (outs := (fdAt 46).os) (results := (fdAt 46).rs) f46_s_l01Dot.O (c := c46) (keep := keepAt 46) (by kernel_rfl) (fun n => orcOf_cf _ _ n) (fun n => lpOk_of (bs := [loopAt c46 0]) (by kernel_rfl) (.cons (f46_s_l01Dot.l0.ok n) .nil)) (fun _ => rfl) (fun _ _ => by kernel_rfl)
noncomputable def f46_s_l01Dot.w : FnW E := fnW 46 f46_s_l01Dot.P sg_ll f46_s_l01Dot.A f46_s_l01Dot.F f46_s_l01Dot.ok

def f79_mathSqrt : Nat → Nat → Option (Nat)
  | 0, _ => none
  | n + 1, x1 =>
    bd (xSqrt n x1) fun r2 =>
    let x3 : Nat := r2
    some x3
def f79_mathSqrt.P : List Arg := [⟨.val, ⟨false, [.leaf], [.flt .f64 0]⟩⟩]
def f79_mathSqrt.A : RAlt (Nat) := .one ⟨[⟨false, [.leaf], [.flt .f64 0]⟩], [none]⟩ sg_f
def f79_mathSqrt.F (n : Nat) (v : Nat) := f79_mathSqrt n v
noncomputable def f79_mathSqrt.O (n : Nat) : Orc := orcOf (E := E) [x92.w] [] n
theorem f79_mathSqrt.ok : ∀ n v x, f79_mathSqrt.F n v = some x → evalFn E n 79 (flAs f79_mathSqrt.P (sg_f.pk v)) = some (f79_mathSqrt.A.enc x) :=
  fn_pure (modes := (fdAt 79).ms) (outs := (fdAt 79).os) (results := (fdAt 79).rs) f79_mathSqrt.O (c := c79) (keep := keepAt 79) (by kernel_rfl) (fun n => orcOf_cf _ _ n) (fun n => lpOk_of (bs := []) (by kernel_rfl) .nil) (fun _ => rfl) (fun _ _ => by kernel_rfl)
noncomputable def f79_mathSqrt.w : FnW E := fnW 79 f79_mathSqrt.P sg_f f79_mathSqrt.A f79_mathSqrt.F f79_mathSqrt.ok

def f78_s_l01Narrow : Nat → Nat → Option (Nat)
  | 0, _ => none
  | n + 1, x1 =>
    bd ((fltToFlt FloatKind.f64 x1 FloatKind.f32)) fun y2 =>
    some y2
def f78_s_l01Narrow.P : List Arg := [⟨.val, ⟨false, [.leaf], [.flt .f64 0]⟩⟩]
def f78_s_l01Narrow.A : RAlt (Nat) := .one ⟨[⟨false, [.leaf], [.flt .f32 0]⟩], [none]⟩ sg_f
def f78_s_l01Narrow.F (n : Nat) (v : Nat) := f78_s_l01Narrow n v
noncomputable def f78_s_l01Narrow.O (n : Nat) : Orc := orcOf (E := E) [] [] n
theorem f78_s_l01Narrow.ok : ∀ n v x, f78_s_l01Narrow.F n v = some x → evalFn E n 78 (flAs f78_s_l01Narrow.P (sg_f.pk v)) = some (f78_s_l01Narrow.A.enc x) :=
  fn_pure (modes := (fdAt 78).ms) (outs := (fdAt 78).os) (results := (fdAt 78).rs) f78_s_l01Narrow.O (c := c78) (keep := keepAt 78) (by kernel_rfl) (fun n => orcOf_cf _ _ n) (fun n => lpOk_of (bs := []) (by kernel_rfl) .nil) (fun _ => rfl) (fun _ _ => by kernel_rfl)
noncomputable def f78_s_l01Narrow.w : FnW E := fnW 78 f78_s_l01Narrow.P sg_f f78_s_l01Narrow.A f78_s_l01Narrow.F f78_s_l01Narrow.ok

def f47_s_l01Sqrt : Nat → Nat → Option (Nat)
  | 0, _ => none
  | n + 1, x1 =>
    bd ((fltToFlt FloatKind.f32 x1 FloatKind.f64)) fun y2 =>
    bd (f79_mathSqrt n y2) fun r3 =>
    let x4 : Nat := r3
    bd (f78_s_l01Narrow n x4) fun r5 =>
    let x6 : Nat := r5
    some x6
def f47_s_l01Sqrt.P : List Arg := [⟨.val, ⟨false, [.leaf], [.flt .f32 0]⟩⟩]
def f47_s_l01Sqrt.A : RAlt (Nat) := .one ⟨[⟨false, [.leaf], [.flt .f32 0]⟩], [none]⟩ sg_f
def f47_s_l01Sqrt.F (n : Nat) (v : Nat) := f47_s_l01Sqrt n v
noncomputable def f47_s_l01Sqrt.O (n : Nat) : Orc := orcOf (E := E) [f79_mathSqrt.w, f78_s_l01Narrow.w] [] n
theorem f47_s_l01Sqrt.ok : ∀ n v x, f47_s_l01Sqrt.F n v = some x → evalFn E n 47 (flAs f47_s_l01Sqrt.P (sg_f.pk v)) = some (f47_s_l01Sqrt.A.enc x) :=
  fn_pure (modes := (fdAt 47).ms) (outs := (fdAt 47).os) (results := (fdAt 47).rs) f47_s_l01Sqrt.O (c := c47) (keep := keepAt 47) (by kernel_rfl) (fun n => orcOf_cf _ _ n) (fun n => lpOk_of (bs := []) (by kernel_rfl) .nil) (fun _ => rfl) (fun _ _ => by kernel_rfl)
noncomputable def f47_s_l01Sqrt.w : FnW E := fnW 47 f47_s_l01Sqrt.P sg_f f47_s_l01Sqrt.A f47_s_l01Sqrt.F f47_s_l01Sqrt.ok

def f61_s_RootMean : Nat → Nat → List T → Option (Nat × Bool)
  | 0, _, _ => none
  | n + 1, n1, l2 =>
    bd (f51_s_l01Few n n1 l2) fun r3 =>
    let b4 : Bool := r3
    br (!b4) (
     some (0, false)) (
     br (((n1 : Nat) : Int) == (0 : Int)) (
      some (0, false)) (
      bd (f46_s_l01Dot n n1 l2 n1 l2) fun r5 =>
      let x6 : Nat := r5
      bd (f47_s_l01Sqrt n (fdiv FloatKind.f32 x6 (FloatKind.nearest FloatKind.f32 ((n1 : Nat) : Int)))) fun r7 =>
      let x8 : Nat := r7
      some (x8, true)))
def sg_fb : Sig (Nat × Bool) where
  pk := fun v => [.flt v.1, .bool v.2]
  up := fun ls => match ls with
    | [.flt a0, .bool a1] => some (a0, a1)
    | _ => none
  ok := by
    intro ls v h
    split at h
    · cases h; rfl
    · cases h

def f61_s_RootMean.P : List Arg := [⟨.val, ⟨false, [.sl .shr [.leaf]], [.lst 0 []]⟩⟩]
def f61_s_RootMean.A : RAlt (Nat × Bool) := .one ⟨[⟨false, [.leaf], [.flt .f32 0]⟩, ⟨false, [.leaf], [.bool false]⟩], [none]⟩ sg_fb
def f61_s_RootMean.F (n : Nat) (v : Nat × List T) := f61_s_RootMean n v.1 v.2
noncomputable def f61_s_RootMean.O (n : Nat) : Orc := orcOf (E := E) [f51_s_l01Few.w, f46_s_l01Dot.w, f47_s_l01Sqrt.w] [] n
theorem f61_s_RootMean.ok : ∀ n v x, f61_s_RootMean.F n v = some x → evalFn E n 61 (flAs f61_s_RootMean.P (sg_l.pk v)) = some (f61_s_RootMean.A.enc x) :=
  fn_pure (modes := (fdAt 61).ms) (outs := (fdAt 61).os) (results := (fdAt 61).rs) f61_s_RootMean.O (c := c61) (keep := keepAt 61) (by kernel_rfl) (fun n => orcOf_cf _ _ n) (fun n => lpOk_of (bs := []) (by kernel_rfl) .nil) (fun _ => rfl) (fun _ _ => by kernel_rfl)
noncomputable def f61_s_RootMean.w : FnW E := fnW 61 f61_s_RootMean.P sg_l f61_s_RootMean.A f61_s_RootMean.F f61_s_RootMean.ok

def f25_s_BalanceOf : Nat → Nat → List T → Nat → List T → Option (Nat × Bool)
  | 0, _, _, _, _ => none
  | n + 1, n1, l2, n3, l4 =>
    bd (f45_s_l10Two n n1 l2 n3 l4) fun r5 =>
    let b6 : Bool := r5
    br (!b6) (
     some (0, false)) (
     bd (f61_s_RootMean n n1 l2) fun r7 =>
     let x8 : Nat := r7.1
     let b9 : Bool := r7.2
     bd (f61_s_RootMean n n3 l4) fun r10 =>
     let x11 : Nat := r10.1
     let b12 : Bool := r10.2
     br (feq FloatKind.f32 (fadd FloatKind.f32 x11 x8) 0) (
      some (0, true)) (
      some ((fdiv FloatKind.f32 (fsub FloatKind.f32 x11 x8) (fadd FloatKind.f32 x11 x8)), true)))
def f25_s_BalanceOf.P : List Arg := [⟨.val, ⟨false, [.sl .shr [.leaf]], [.lst 0 []]⟩⟩, ⟨.val, ⟨false, [.sl .shr [.leaf]], [.lst 0 []]⟩⟩]
def f25_s_BalanceOf.A : RAlt (Nat × Bool) := .one ⟨[⟨false, [.leaf], [.flt .f32 0]⟩, ⟨false, [.leaf], [.bool false]⟩], [none, none]⟩ sg_fb
def f25_s_BalanceOf.F (n : Nat) (v : Nat × List T × Nat × List T) := f25_s_BalanceOf n v.1 v.2.1 v.2.2.1 v.2.2.2
noncomputable def f25_s_BalanceOf.O (n : Nat) : Orc := orcOf (E := E) [f45_s_l10Two.w, f61_s_RootMean.w] [] n
theorem f25_s_BalanceOf.ok : ∀ n v x, f25_s_BalanceOf.F n v = some x → evalFn E n 25 (flAs f25_s_BalanceOf.P (sg_ll.pk v)) = some (f25_s_BalanceOf.A.enc x) :=
  fn_pure (modes := (fdAt 25).ms) (outs := (fdAt 25).os) (results := (fdAt 25).rs) f25_s_BalanceOf.O (c := c25) (keep := keepAt 25) (by kernel_rfl) (fun n => orcOf_cf _ _ n) (fun n => lpOk_of (bs := []) (by kernel_rfl) .nil) (fun _ => rfl) (fun _ _ => by kernel_rfl)
noncomputable def f25_s_BalanceOf.w : FnW E := fnW 25 f25_s_BalanceOf.P sg_ll f25_s_BalanceOf.A f25_s_BalanceOf.F f25_s_BalanceOf.ok

def f54_i_areSamples : Nat → Nat → List T → Option (Bool)
  | 0, _, _ => none
  | n + 1, n1, l2 =>
    some (decide (((n1 : Nat) : Int) ≤ (256 : Int)))
def f54_i_areSamples.P : List Arg := [⟨.val, ⟨false, [.sl .shr [.leaf]], [.lst 0 []]⟩⟩]
def f54_i_areSamples.A : RAlt (Bool) := .one ⟨[⟨false, [.leaf], [.bool false]⟩], [none]⟩ sg_b
def f54_i_areSamples.F (n : Nat) (v : Nat × List T) := f54_i_areSamples n v.1 v.2
noncomputable def f54_i_areSamples.O (n : Nat) : Orc := orcOf (E := E) [] [] n
theorem f54_i_areSamples.ok : ∀ n v x, f54_i_areSamples.F n v = some x → evalFn E n 54 (flAs f54_i_areSamples.P (sg_l.pk v)) = some (f54_i_areSamples.A.enc x) :=
  fn_pure (modes := (fdAt 54).ms) (outs := (fdAt 54).os) (results := (fdAt 54).rs) f54_i_areSamples.O (c := c54) (keep := keepAt 54) (by kernel_rfl) (fun n => orcOf_cf _ _ n) (fun n => lpOk_of (bs := []) (by kernel_rfl) .nil) (fun _ => rfl) (fun _ _ => by kernel_rfl)
noncomputable def f54_i_areSamples.w : FnW E := fnW 54 f54_i_areSamples.P sg_l f54_i_areSamples.A f54_i_areSamples.F f54_i_areSamples.ok

def f48_i_areSides : Nat → Nat → List T → Nat → List T → Option (Bool)
  | 0, _, _, _, _ => none
  | n + 1, n1, l2, n3, l4 =>
    bd (f54_i_areSamples n n1 l2) fun r5 =>
    let b6 : Bool := r5
    br b6 (
     br (decide (((n1 : Nat) : Int) > (0 : Int))) (
      some (((n3 : Nat) : Int) == ((n1 : Nat) : Int))) (
      some false)) (
     some false)
def f48_i_areSides.P : List Arg := [⟨.val, ⟨false, [.sl .shr [.leaf]], [.lst 0 []]⟩⟩, ⟨.val, ⟨false, [.sl .shr [.leaf]], [.lst 0 []]⟩⟩]
def f48_i_areSides.A : RAlt (Bool) := .one ⟨[⟨false, [.leaf], [.bool false]⟩], [none, none]⟩ sg_b
def f48_i_areSides.F (n : Nat) (v : Nat × List T × Nat × List T) := f48_i_areSides n v.1 v.2.1 v.2.2.1 v.2.2.2
noncomputable def f48_i_areSides.O (n : Nat) : Orc := orcOf (E := E) [f54_i_areSamples.w] [] n
theorem f48_i_areSides.ok : ∀ n v x, f48_i_areSides.F n v = some x → evalFn E n 48 (flAs f48_i_areSides.P (sg_ll.pk v)) = some (f48_i_areSides.A.enc x) :=
  fn_pure (modes := (fdAt 48).ms) (outs := (fdAt 48).os) (results := (fdAt 48).rs) f48_i_areSides.O (c := c48) (keep := keepAt 48) (by kernel_rfl) (fun n => orcOf_cf _ _ n) (fun n => lpOk_of (bs := []) (by kernel_rfl) .nil) (fun _ => rfl) (fun _ _ => by kernel_rfl)
noncomputable def f48_i_areSides.w : FnW E := fnW 48 f48_i_areSides.P sg_ll f48_i_areSides.A f48_i_areSides.F f48_i_areSides.ok

def f49_i_dot.l0 (n : Nat) : Nat → Nat → List T → Nat → List T → Nat → Int → Int → Option (Nat)
  | 0, _, _, _, _, _, _, _ => none
  | m + 1, n1, l2, n3, l4, x5, i6, i7 =>
    br (decide (i7 < i6)) (
     gd ((decide (((0 : Int) ≤ i7) ∧ (i7 < ((n1 : Nat) : Int)))) && (okAt [(CK.flt FloatKind.f32)] l2 (Int.toNat i7))) (
     gd ((decide (((0 : Int) ≤ i7) ∧ (i7 < ((n3 : Nat) : Int)))) && (okAt [(CK.flt FloatKind.f32)] l4 (Int.toNat i7))) (
     let x8 : Nat := (fadd FloatKind.f32 x5 (fmul FloatKind.f32 (fAt l2 (Int.toNat i7)) (fAt l4 (Int.toNat i7))))
     f49_i_dot.l0 n m n1 l2 n3 l4 x8 i6 (IntKind.i64.wrap (i7 + (1 : Int)))))) (
     some x5)
def f49_i_dot : Nat → Nat → List T → Nat → List T → Option (Nat)
  | 0, _, _, _, _ => none
  | n + 1, n1, l2, n3, l4 =>
    bd (f49_i_dot.l0 n n n1 l2 n3 l4 0 ((n1 : Nat) : Int) (0 : Int)) fun r5 =>
    let x6 : Nat := r5
    some x6
def sg_llfii : Sig (Nat × List T × Nat × List T × Nat × Int × Int) where
  pk := fun v => [.lst v.1 v.2.1, .lst v.2.2.1 v.2.2.2.1, .flt v.2.2.2.2.1, .int v.2.2.2.2.2.1, .int v.2.2.2.2.2.2]
  up := fun ls => match ls with
    | [.lst a0 a1, .lst a2 a3, .flt a4, .int a5, .int a6] => some (a0, a1, a2, a3, a4, a5, a6)
    | _ => none
  ok := by
    intro ls v h
    split at h
    · cases h; rfl
    · cases h

def f49_i_dot.l0.P : AS := ⟨[(0, .val false [.sl .shr [.leaf]] [.lst 0 []] [] 0), (1, .val false [.sl .shr [.leaf]] [.lst 0 []] [] 0), (5, .val false [.leaf] [.flt .f32 0] [] 0), (8, .val false [.leaf] [.int .i64 0] [] 0), (9, .val false [.leaf] [.int .i64 0] [] 0)], 0⟩
def f49_i_dot.l0.A : Alt (Nat) := .one (.exit 0) ⟨[(5, .val false [.leaf] [.flt .f32 0] [] 0)], 0⟩ sg_f
def f49_i_dot.l0.F (n m : Nat) (v : Nat × List T × Nat × List T × Nat × Int × Int) := f49_i_dot.l0 n m v.1 v.2.1 v.2.2.1 v.2.2.2.1 v.2.2.2.2.1 v.2.2.2.2.2.1 v.2.2.2.2.2.2
def f49_i_dot.l0.W (n : Nat) : LpW := .of 48 f49_i_dot.l0.P sg_llfii f49_i_dot.l0.A (f49_i_dot.l0.F n n)
def f49_i_dot.P : List Arg := [⟨.val, ⟨false, [.sl .shr [.leaf]], [.lst 0 []]⟩⟩, ⟨.val, ⟨false, [.sl .shr [.leaf]], [.lst 0 []]⟩⟩]
def f49_i_dot.A : RAlt (Nat) := .one ⟨[⟨false, [.leaf], [.flt .f32 0]⟩], [none, none]⟩ sg_f
def f49_i_dot.F (n : Nat) (v : Nat × List T × Nat × List T) := f49_i_dot n v.1 v.2.1 v.2.2.1 v.2.2.2
noncomputable def f49_i_dot.O (n : Nat) : Orc := orcOf (E := E) [] [f49_i_dot.l0.W n] n
theorem f49_i_dot.l0.ok (n : Nat) : LpOk (f49_i_dot.O n) E (evalFn E n) n (keepAt 49) (.loop (loopAt c49 0)) :=
  lp_pure f49_i_dot.l0.P sg_llfii f49_i_dot.l0.A (f49_i_dot.l0.F n) (orcOf_cf _ _ n) (lpOk_of (bs := []) (by kernel_rfl) .nil) (fun _ => rfl) (fun _ _ => by kernel_rfl) (fun _ _ _ => by kernel_rfl)
theorem f49_i_dot.ok : ∀ n v x, f49_i_dot.F n v = some x → evalFn E n 49 (flAs f49_i_dot.P (sg_ll.pk v)) = some (f49_i_dot.A.enc x) :=
  fn_pure (modes := (fdAt 49).ms) (outs := (fdAt 49).os) (results := (fdAt 49).rs) f49_i_dot.O (c := c49) (keep := keepAt 49) (by kernel_rfl) (fun n => orcOf_cf _ _ n) (fun n => lpOk_of (bs := [loopAt c49 0]) (by kernel_rfl) (.cons (f49_i_dot.l0.ok n) .nil)) (fun _ => rfl) (fun _ _ => by kernel_rfl)
noncomputable def f49_i_dot.w : FnW E := fnW 49 f49_i_dot.P sg_ll f49_i_dot.A f49_i_dot.F f49_i_dot.ok

def f50_i_RootNumber : Nat → Nat → Option (Nat)
  | 0, _ => none
  | n + 1, x1 =>
    bd ((fltToFlt FloatKind.f32 x1 FloatKind.f64)) fun y2 =>
    bd (f79_mathSqrt n y2) fun r3 =>
    let x4 : Nat := r3
    bd ((fltToFlt FloatKind.f64 x4 FloatKind.f32)) fun y5 =>
    some y5
def f50_i_RootNumber.P : List Arg := [⟨.val, ⟨false, [.leaf], [.flt .f32 0]⟩⟩]
def f50_i_RootNumber.A : RAlt (Nat) := .one ⟨[⟨false, [.leaf], [.flt .f32 0]⟩], [none]⟩ sg_f
def f50_i_RootNumber.F (n : Nat) (v : Nat) := f50_i_RootNumber n v
noncomputable def f50_i_RootNumber.O (n : Nat) : Orc := orcOf (E := E) [f79_mathSqrt.w] [] n
theorem f50_i_RootNumber.ok : ∀ n v x, f50_i_RootNumber.F n v = some x → evalFn E n 50 (flAs f50_i_RootNumber.P (sg_f.pk v)) = some (f50_i_RootNumber.A.enc x) :=
  fn_pure (modes := (fdAt 50).ms) (outs := (fdAt 50).os) (results := (fdAt 50).rs) f50_i_RootNumber.O (c := c50) (keep := keepAt 50) (by kernel_rfl) (fun n => orcOf_cf _ _ n) (fun n => lpOk_of (bs := []) (by kernel_rfl) .nil) (fun _ => rfl) (fun _ _ => by kernel_rfl)
noncomputable def f50_i_RootNumber.w : FnW E := fnW 50 f50_i_RootNumber.P sg_f f50_i_RootNumber.A f50_i_RootNumber.F f50_i_RootNumber.ok

def f62_i_RootMean : Nat → Nat → List T → Option (Nat × Bool)
  | 0, _, _ => none
  | n + 1, n1, l2 =>
    bd (f54_i_areSamples n n1 l2) fun r3 =>
    let b4 : Bool := r3
    br (!b4) (
     some (0, false)) (
     br (((n1 : Nat) : Int) == (0 : Int)) (
      some (0, false)) (
      bd (f49_i_dot n n1 l2 n1 l2) fun r5 =>
      let x6 : Nat := r5
      bd (f50_i_RootNumber n (fdiv FloatKind.f32 x6 (FloatKind.nearest FloatKind.f32 ((n1 : Nat) : Int)))) fun r7 =>
      let x8 : Nat := r7
      some (x8, true)))
def f62_i_RootMean.P : List Arg := [⟨.val, ⟨false, [.sl .shr [.leaf]], [.lst 0 []]⟩⟩]
def f62_i_RootMean.A : RAlt (Nat × Bool) := .one ⟨[⟨false, [.leaf], [.flt .f32 0]⟩, ⟨false, [.leaf], [.bool false]⟩], [none]⟩ sg_fb
def f62_i_RootMean.F (n : Nat) (v : Nat × List T) := f62_i_RootMean n v.1 v.2
noncomputable def f62_i_RootMean.O (n : Nat) : Orc := orcOf (E := E) [f54_i_areSamples.w, f49_i_dot.w, f50_i_RootNumber.w] [] n
theorem f62_i_RootMean.ok : ∀ n v x, f62_i_RootMean.F n v = some x → evalFn E n 62 (flAs f62_i_RootMean.P (sg_l.pk v)) = some (f62_i_RootMean.A.enc x) :=
  fn_pure (modes := (fdAt 62).ms) (outs := (fdAt 62).os) (results := (fdAt 62).rs) f62_i_RootMean.O (c := c62) (keep := keepAt 62) (by kernel_rfl) (fun n => orcOf_cf _ _ n) (fun n => lpOk_of (bs := []) (by kernel_rfl) .nil) (fun _ => rfl) (fun _ _ => by kernel_rfl)
noncomputable def f62_i_RootMean.w : FnW E := fnW 62 f62_i_RootMean.P sg_l f62_i_RootMean.A f62_i_RootMean.F f62_i_RootMean.ok

def f26_i_BalanceOf : Nat → Nat → List T → Nat → List T → Option (Nat × Bool)
  | 0, _, _, _, _ => none
  | n + 1, n1, l2, n3, l4 =>
    bd (f48_i_areSides n n1 l2 n3 l4) fun r5 =>
    let b6 : Bool := r5
    br (!b6) (
     some (0, false)) (
     bd (f62_i_RootMean n n1 l2) fun r7 =>
     let x8 : Nat := r7.1
     let b9 : Bool := r7.2
     bd (f62_i_RootMean n n3 l4) fun r10 =>
     let x11 : Nat := r10.1
     let b12 : Bool := r10.2
     br (feq FloatKind.f32 (fadd FloatKind.f32 x11 x8) 0) (
      some (0, true)) (
      some ((fdiv FloatKind.f32 (fsub FloatKind.f32 x11 x8) (fadd FloatKind.f32 x11 x8)), true)))
def f26_i_BalanceOf.P : List Arg := [⟨.val, ⟨false, [.sl .shr [.leaf]], [.lst 0 []]⟩⟩, ⟨.val, ⟨false, [.sl .shr [.leaf]], [.lst 0 []]⟩⟩]
def f26_i_BalanceOf.A : RAlt (Nat × Bool) := .one ⟨[⟨false, [.leaf], [.flt .f32 0]⟩, ⟨false, [.leaf], [.bool false]⟩], [none, none]⟩ sg_fb
def f26_i_BalanceOf.F (n : Nat) (v : Nat × List T × Nat × List T) := f26_i_BalanceOf n v.1 v.2.1 v.2.2.1 v.2.2.2
noncomputable def f26_i_BalanceOf.O (n : Nat) : Orc := orcOf (E := E) [f48_i_areSides.w, f62_i_RootMean.w] [] n
theorem f26_i_BalanceOf.ok : ∀ n v x, f26_i_BalanceOf.F n v = some x → evalFn E n 26 (flAs f26_i_BalanceOf.P (sg_ll.pk v)) = some (f26_i_BalanceOf.A.enc x) :=
  fn_pure (modes := (fdAt 26).ms) (outs := (fdAt 26).os) (results := (fdAt 26).rs) f26_i_BalanceOf.O (c := c26) (keep := keepAt 26) (by kernel_rfl) (fun n => orcOf_cf _ _ n) (fun n => lpOk_of (bs := []) (by kernel_rfl) .nil) (fun _ => rfl) (fun _ _ => by kernel_rfl)
noncomputable def f26_i_BalanceOf.w : FnW E := fnW 26 f26_i_BalanceOf.P sg_ll f26_i_BalanceOf.A f26_i_BalanceOf.F f26_i_BalanceOf.ok

def f15_l_sameFloat : Nat → Nat → Nat → Option (Bool)
  | 0, _, _ => none
  | n + 1, x1, x2 =>
    br (fne FloatKind.f64 x1 x1) (
     br (fne FloatKind.f64 x1 x1) (
      some (fne FloatKind.f64 x2 x2)) (
      some false)) (
     br (fne FloatKind.f64 x2 x2) (
      br (fne FloatKind.f64 x1 x1) (
       some (fne FloatKind.f64 x2 x2)) (
       some false)) (
      br (feq FloatKind.f64 x1 0) (
       br (feq FloatKind.f64 x2 0) (
        some ((fgt FloatKind.f64 (fdiv FloatKind.f64 4607182418800017408 x1) 0) == (fgt FloatKind.f64 (fdiv FloatKind.f64 4607182418800017408 x2) 0))) (
        some (feq FloatKind.f64 x1 x2))) (
       some (feq FloatKind.f64 x1 x2))))
def sg_ff : Sig (Nat × Nat) where
  pk := fun v => [.flt v.1, .flt v.2]
  up := fun ls => match ls with
    | [.flt a0, .flt a1] => some (a0, a1)
    | _ => none
  ok := by
    intro ls v h
    split at h
    · cases h; rfl
    · cases h

def f15_l_sameFloat.P : List Arg := [⟨.val, ⟨false, [.leaf], [.flt .f64 0]⟩⟩, ⟨.val, ⟨false, [.leaf], [.flt .f64 0]⟩⟩]
def f15_l_sameFloat.A : RAlt (Bool) := .one ⟨[⟨false, [.leaf], [.bool false]⟩], [none, none]⟩ sg_b
def f15_l_sameFloat.F (n : Nat) (v : Nat × Nat) := f15_l_sameFloat n v.1 v.2
noncomputable def f15_l_sameFloat.O (n : Nat) : Orc := orcOf (E := E) [] [] n
theorem f15_l_sameFloat.ok : ∀ n v x, f15_l_sameFloat.F n v = some x → evalFn E n 15 (flAs f15_l_sameFloat.P (sg_ff.pk v)) = some (f15_l_sameFloat.A.enc x) :=
  fn_pure (modes := (fdAt 15).ms) (outs := (fdAt 15).os) (results := (fdAt 15).rs) f15_l_sameFloat.O (c := c15) (keep := keepAt 15) (by kernel_rfl) (fun n => orcOf_cf _ _ n) (fun n => lpOk_of (bs := []) (by kernel_rfl) .nil) (fun _ => rfl) (fun _ _ => by kernel_rfl)
noncomputable def f15_l_sameFloat.w : FnW E := fnW 15 f15_l_sameFloat.P sg_ff f15_l_sameFloat.A f15_l_sameFloat.F f15_l_sameFloat.ok

def f16_l_eqFloat32S.l0 (n : Nat) : Nat → Nat → List T → Nat → List T → Int → Option ((Bool) ⊕ (Unit))
  | 0, _, _, _, _, _ => none
  | m + 1, n1, l2, n3, l4, i5 =>
    br (decide (i5 < ((n1 : Nat) : Int))) (
     gd ((decide (((0 : Int) ≤ i5) ∧ (i5 < ((n1 : Nat) : Int)))) && (okAt [(CK.flt FloatKind.f32)] l2 (Int.toNat i5))) (
     bd ((fltToFlt FloatKind.f32 (fAt l2 (Int.toNat i5)) FloatKind.f64)) fun y6 =>
     gd ((decide (((0 : Int) ≤ i5) ∧ (i5 < ((n3 : Nat) : Int)))) && (okAt [(CK.flt FloatKind.f32)] l4 (Int.toNat i5))) (
     bd ((fltToFlt FloatKind.f32 (fAt l4 (Int.toNat i5)) FloatKind.f64)) fun y7 =>
     bd (f15_l_sameFloat n y6 y7) fun r8 =>
     let b9 : Bool := r8
     br (!b9) (
      some (Sum.inl false)) (
      f16_l_eqFloat32S.l0 n m n1 l2 n3 l4 (IntKind.i64.wrap (i5 + (1 : Int))))))) (
     some (Sum.inr ()))
def f16_l_eqFloat32S : Nat → Nat → List T → Nat → List T → Option (Bool)
  | 0, _, _, _, _ => none
  | n + 1, n1, l2, n3, l4 =>
    br (((n1 : Nat) : Int) != ((n3 : Nat) : Int)) (
     some false) (
     bd (f16_l_eqFloat32S.l0 n n n1 l2 n3 l4 (0 : Int)) fun r5 =>
     sm r5 (fun u6 =>
      let b7 : Bool := u6
      some b7) (fun u8 =>
      some true))
def sg : Sig (Unit) where
  pk := fun v => []
  up := fun ls => match ls with
    | [] => some ()
    | _ => none
  ok := by
    intro ls v h
    split at h
    · cases h; rfl
    · cases h

def f16_l_eqFloat32S.l0.P : AS := ⟨[(0, .val false [.sl .shr [.leaf]] [.lst 0 []] [] 0), (1, .val false [.sl .shr [.leaf]] [.lst 0 []] [] 0), (5, .val false [.leaf] [.int .i64 0] [] 0)], 0⟩
def f16_l_eqFloat32S.l0.A : Alt ((Bool) ⊕ (Unit)) := .or (.one .ret ⟨[(4, .val false [.leaf] [.bool false] [] 0)], 0⟩ sg_b) (.one (.exit 0) ⟨[(4, .dead)], 0⟩ sg)
def f16_l_eqFloat32S.l0.F (n m : Nat) (v : Nat × List T × Nat × List T × Int) := f16_l_eqFloat32S.l0 n m v.1 v.2.1 v.2.2.1 v.2.2.2.1 v.2.2.2.2
def f16_l_eqFloat32S.l0.W (n : Nat) : LpW := .of 64 f16_l_eqFloat32S.l0.P sg_lli f16_l_eqFloat32S.l0.A (f16_l_eqFloat32S.l0.F n n)
def f16_l_eqFloat32S.P : List Arg := [⟨.val, ⟨false, [.sl .shr [.leaf]], [.lst 0 []]⟩⟩, ⟨.val, ⟨false, [.sl .shr [.leaf]], [.lst 0 []]⟩⟩]
def f16_l_eqFloat32S.A : RAlt (Bool) := .one ⟨[⟨false, [.leaf], [.bool false]⟩], [none, none]⟩ sg_b
def f16_l_eqFloat32S.F (n : Nat) (v : Nat × List T × Nat × List T) := f16_l_eqFloat32S n v.1 v.2.1 v.2.2.1 v.2.2.2
noncomputable def f16_l_eqFloat32S.O (n : Nat) : Orc := orcOf (E := E) [f15_l_sameFloat.w] [f16_l_eqFloat32S.l0.W n] n
theorem f16_l_eqFloat32S.l0.ok (n : Nat) : LpOk (f16_l_eqFloat32S.O n) E (evalFn E n) n (keepAt 16) (.loop (loopAt c16 0)) :=
  lp_pure f16_l_eqFloat32S.l0.P sg_lli f16_l_eqFloat32S.l0.A (f16_l_eqFloat32S.l0.F n) (orcOf_cf _ _ n) (lpOk_of (bs := []) (by kernel_rfl) .nil) (fun _ => rfl) (fun _ _ => by kernel_rfl) (fun _ _ _ => by kernel_rfl)
theorem f16_l_eqFloat32S.ok : ∀ n v x, f16_l_eqFloat32S.F n v = some x → evalFn E n 16 (flAs f16_l_eqFloat32S.P (sg_ll.pk v)) = some (f16_l_eqFloat32S.A.enc x) :=
  fn_pure (modes := (fdAt 16).ms) (outs := (fdAt 16).os) (results := (fdAt 16).rs) f16_l_eqFloat32S.O (c := c16) (keep := keepAt 16) (by kernel_rfl) (fun n => orcOf_cf _ _ n) (fun n => lpOk_of (bs := [loopAt c16 0]) (by kernel_rfl) (.cons (f16_l_eqFloat32S.l0.ok n) .nil)) (fun _ => rfl) (fun _ _ => by kernel_rfl)
noncomputable def f16_l_eqFloat32S.w : FnW E := fnW 16 f16_l_eqFloat32S.P sg_ll f16_l_eqFloat32S.A f16_l_eqFloat32S.F f16_l_eqFloat32S.ok

def f7_l_FnExactBalanceOf : Nat → Nat → List T → Nat → List T → Option (Bool)
  | 0, _, _, _, _ => none
  | n + 1, n1, l2, n3, l4 =>
    br (decide (((n1 : Nat) : Int) > (1048576 : Int))) (
     some true) (
     br (decide (((n3 : Nat) : Int) > (1048576 : Int))) (
      some true) (
      bd (f13_l_toFloat32S n n1 l2) fun r5 =>
      let n6 : Nat := r5.1
      let l7 : List T := r5.2
      bd (f13_l_toFloat32S n n3 l4) fun r8 =>
      let n9 : Nat := r8.1
      let l10 : List T := r8.2
      bd (f25_s_BalanceOf n n6 l7 n9 l10) fun r11 =>
      let x12 : Nat := r11.1
      let b13 : Bool := r11.2
      bd (f13_l_toFloat32S n n1 l2) fun r14 =>
      let n15 : Nat := r14.1
      let l16 : List T := r14.2
      bd (f13_l_toFloat32S n n3 l4) fun r17 =>
      let n18 : Nat := r17.1
      let l19 : List T := r17.2
      bd (f26_i_BalanceOf n n15 l16 n18 l19) fun r20 =>
      let x21 : Nat := r20.1
      let b22 : Bool := r20.2
      bd ((fltToFlt FloatKind.f32 x21 FloatKind.f64)) fun y23 =>
      bd ((fltToFlt FloatKind.f32 x12 FloatKind.f64)) fun y24 =>
      bd (f15_l_sameFloat n y23 y24) fun r25 =>
      let b26 : Bool := r25
      br (!b26) (
       some false) (
       br (!(b22 == b13)) (
        some false) (
        bd (f13_l_toFloat32S n n1 l2) fun r27 =>
        let n28 : Nat := r27.1
        let l29 : List T := r27.2
        bd (f16_l_eqFloat32S n n15 l16 n28 l29) fun r30 =>
        let b31 : Bool := r30
        br (!b31) (
         some false) (
         bd (f13_l_toFloat32S n n3 l4) fun r32 =>
         let n33 : Nat := r32.1
         let l34 : List T := r32.2
         bd (f16_l_eqFloat32S n n18 l19 n33 l34) fun r35 =>
         let b36 : Bool := r35
         br (!b36) (
          some false) (
          some true))))))
def f7_l_FnExactBalanceOf.P : List Arg := [⟨.val, ⟨false, [.sl .shr [.leaf]], [.lst 0 []]⟩⟩, ⟨.val, ⟨false, [.sl .shr [.leaf]], [.lst 0 []]⟩⟩]
def f7_l_FnExactBalanceOf.A : RAlt (Bool) := .one ⟨[⟨false, [.leaf], [.bool false]⟩], [none, none]⟩ sg_b
def f7_l_FnExactBalanceOf.F (n : Nat) (v : Nat × List T × Nat × List T) := f7_l_FnExactBalanceOf n v.1 v.2.1 v.2.2.1 v.2.2.2
noncomputable def f7_l_FnExactBalanceOf.O (n : Nat) : Orc := orcOf (E := E) [f13_l_toFloat32S.w, f25_s_BalanceOf.w, f26_i_BalanceOf.w, f15_l_sameFloat.w, f16_l_eqFloat32S.w] [] n
theorem f7_l_FnExactBalanceOf.ok : ∀ n v x, f7_l_FnExactBalanceOf.F n v = some x → evalFn E n 7 (flAs f7_l_FnExactBalanceOf.P (sg_ll.pk v)) = some (f7_l_FnExactBalanceOf.A.enc x) :=
  fn_pure (modes := (fdAt 7).ms) (outs := (fdAt 7).os) (results := (fdAt 7).rs) f7_l_FnExactBalanceOf.O (c := c7) (keep := keepAt 7) (by kernel_rfl) (fun n => orcOf_cf _ _ n) (fun n => lpOk_of (bs := []) (by kernel_rfl) .nil) (fun _ => rfl) (fun _ _ => by kernel_rfl)
noncomputable def f7_l_FnExactBalanceOf.w : FnW E := fnW 7 f7_l_FnExactBalanceOf.P sg_ll f7_l_FnExactBalanceOf.A f7_l_FnExactBalanceOf.F f7_l_FnExactBalanceOf.ok
end Go.Proofs.Ytklihgoobdbamaa.D
end
section
/- FnExactBalanceOf, in plain Lean. -/
namespace Go.Proofs.Ytklihgoobdbamaa.D
open Go Go.Desk
set_option linter.unusedVariables false
/-- a copy in single precision -/
theorem copy_loop (n : Nat) (xs : List Nat) (hx : xs.length ≤ 1048576) : ∀ (j i m : Nat) (ys : List Nat), ys.length = xs.length → i + j = xs.length → j < m →
    f13_l_toFloat32S.l0 n m xs.length (fls .f32 xs) xs.length (fls .f32 (xs.take i ++ ys.drop i)) (i : Int) = some (xs.length, fls .f32 xs) := by
  intro j
  induction j with
  | zero =>
    intro i m ys hl hi hm
    obtain ⟨m, rfl⟩ : ∃ k, m = k + 1 := ⟨m - 1, by omega⟩
    rw [f13_l_toFloat32S.l0, nlt_dec (by omega)]
    simp only [br]
    rw [List.take_of_length_le (by omega), List.drop_eq_nil_of_le (by omega), List.append_nil]
  | succ j ih =>
    intro i m ys hl hi hm
    obtain ⟨m, rfl⟩ : ∃ k, m = k + 1 := ⟨m - 1, by omega⟩
    have hlt : i < xs.length := by omega
    rw [f13_l_toFloat32S.l0, lt_dec hlt, in_dec hlt, Int.toNat_natCast, okAt_fls hlt, wrap_succ (by omega)]
    have hlen : Nat.ble (i + 1) (fls .f32 (xs.take i ++ ys.drop i)).length = true := by
      rw [Nat.ble_eq, fls_length]; simp; omega
    rw [hlen]
    simp only [br, gd, Bool.and_self]
    rw [setN_one, fAt_fls, set_fls]
    have : xs.getD i 0 = xs[i] := by simp [List.getD, hlt]
    rw [this, take_set_drop hlt hl]
    exact ih (i + 1) m ys hl (by omega) (by omega)

theorem copied (n : Nat) (xs : List Nat) (hx : xs.length ≤ 1048576) (hn : xs.length < n) : f13_l_toFloat32S (n + 1) xs.length (fls .f32 xs) = some (xs.length, fls .f32 xs) := by
  rw [f13_l_toFloat32S]
  have h := copy_loop n xs hx xs.length 0 n (List.replicate xs.length 0) (by simp) (by omega) hn
  rw [List.take_zero, List.drop_zero, List.nil_append] at h
  have e : decide ((0 : Int) ≤ ((xs.length : Nat) : Int) ∧ ((xs.length : Nat) : Int) ≤ (2147483648 : Int)) = true := by simp; omega
  rw [reps_fls, e]
  simp only [gd]
  rw [show ((0 : Nat) : Int) = 0 from rfl] at h
  rw [h]; rfl

theorem same_self (n y : Nat) : f15_l_sameFloat (n + 1) y y = some true := by
  unfold f15_l_sameFloat
  simp only [fne_feq]
  cases h : feq FloatKind.f64 y y
  · simp [br]
  · cases h0 : feq FloatKind.f64 y 0 <;> simp [br]

/-- equal to itself -/
theorem eq_loop (n : Nat) (xs : List Nat) (hx : xs.length ≤ 2147483648) : ∀ (j i m : Nat), i + j = xs.length → j < m →
    f16_l_eqFloat32S.l0 (n + 1) m xs.length (fls .f32 xs) xs.length (fls .f32 xs) (i : Int) = some (Sum.inr ()) := by
  intro j
  induction j with
  | zero =>
    intro i m hi hm
    obtain ⟨m, rfl⟩ : ∃ k, m = k + 1 := ⟨m - 1, by omega⟩
    rw [f16_l_eqFloat32S.l0, nlt_dec (by omega)]
    rfl
  | succ j ih =>
    intro i m hi hm
    obtain ⟨m, rfl⟩ : ∃ k, m = k + 1 := ⟨m - 1, by omega⟩
    have hlt : i < xs.length := by omega
    rw [f16_l_eqFloat32S.l0, lt_dec hlt, in_dec hlt, Int.toNat_natCast, okAt_fls hlt, wrap_succ (by omega), fltToFlt_wide]
    simp only [br, gd, bd, Bool.and_self, same_self, Bool.not_true]
    exact ih (i + 1) m (by omega) (by omega)

theorem eq_self (n : Nat) (xs : List Nat) (hx : xs.length ≤ 2147483648) (hn : xs.length < n + 1) : f16_l_eqFloat32S (n + 2) xs.length (fls .f32 xs) xs.length (fls .f32 xs) = some true := by
  rw [f16_l_eqFloat32S]
  have h := eq_loop n xs hx xs.length 0 (n + 1) (by omega) hn
  rw [show ((0 : Nat) : Int) = 0 from rfl] at h
  rw [h, show (((xs.length : Nat) : Int) != ((xs.length : Nat) : Int)) = false by simp]
  rfl

/-- both dots alike -/
theorem dot_loop (n n' : Nat) (xs ys : List Nat) (hl : ys.length = xs.length) (hx : xs.length ≤ 2147483648) : ∀ (j i m m' s : Nat), i + j = xs.length → j < m → j < m' →
    ∃ r, f46_s_l01Dot.l0 n m xs.length (fls .f32 xs) ys.length (fls .f32 ys) s (i : Int) = some r ∧ f49_i_dot.l0 n' m' xs.length (fls .f32 xs) ys.length (fls .f32 ys) s (xs.length : Int) (i : Int) = some r := by
  intro j
  induction j with
  | zero =>
    intro i m m' s hi hm hm'
    obtain ⟨m, rfl⟩ : ∃ k, m = k + 1 := ⟨m - 1, by omega⟩
    obtain ⟨m', rfl⟩ : ∃ k, m' = k + 1 := ⟨m' - 1, by omega⟩
    refine ⟨s, ?_, ?_⟩
    · rw [f46_s_l01Dot.l0, nlt_dec (by omega)]; rfl
    · rw [f49_i_dot.l0, nlt_dec (by omega)]; rfl
  | succ j ih =>
    intro i m m' s hi hm hm'
    obtain ⟨m, rfl⟩ : ∃ k, m = k + 1 := ⟨m - 1, by omega⟩
    obtain ⟨m', rfl⟩ : ∃ k, m' = k + 1 := ⟨m' - 1, by omega⟩
    have hlt : i < xs.length := by omega
    have hlt' : i < ys.length := by omega
    rw [f46_s_l01Dot.l0, f49_i_dot.l0, lt_dec hlt, in_dec hlt, in_dec hlt', Int.toNat_natCast, okAt_fls hlt, okAt_fls hlt', wrap_succ (by omega)]
    simp only [gd, br, Bool.and_self]
    exact ih (i + 1) m m' _ (by omega) (by omega) (by omega)
theorem dots (n n' : Nat) (xs ys : List Nat) (hl : ys.length = xs.length) (hx : xs.length ≤ 2147483648) (hn : xs.length < n) (hn' : xs.length < n') :
    ∃ r, f46_s_l01Dot (n + 1) xs.length (fls .f32 xs) ys.length (fls .f32 ys) = some r ∧ f49_i_dot (n' + 1) xs.length (fls .f32 xs) ys.length (fls .f32 ys) = some r := by
  obtain ⟨r, h1, h2⟩ := dot_loop n n' xs ys hl hx xs.length 0 n n' 0 (by omega) hn hn'
  refine ⟨r, ?_, ?_⟩
  · rw [f46_s_l01Dot, show (0 : Int) = ((0 : Nat) : Int) from rfl, h1]; rfl
  · rw [f49_i_dot, show (0 : Int) = ((0 : Nat) : Int) from rfl, h2]; rfl

theorem m_sqrt (n x : Nat) : f79_mathSqrt (n + 2) x = some (fsqrt x) := by rw [f79_mathSqrt]; rfl
theorem s_narrow {n x y : Nat} (h : fltToFlt .f64 x .f32 = some y) : f78_s_l01Narrow (n + 1) x = some y := by rw [f78_s_l01Narrow, h]; rfl
theorem s_root (n x : Nat) : f47_s_l01Sqrt (n + 3) x = some (root32 x) := by
  rw [f47_s_l01Sqrt, fltToFlt_wide]
  simp only [bd, m_sqrt, s_narrow (fltToFlt_root x)]
theorem i_root (n x : Nat) : f50_i_RootNumber (n + 3) x = some (root32 x) := by
  rw [f50_i_RootNumber, fltToFlt_wide]
  simp only [bd, m_sqrt, fltToFlt_root]

theorem s_few (n k : Nat) (l : List T) : f51_s_l01Few (n + 1) k l = some (decide ((k : Int) ≤ 256)) := by rw [f51_s_l01Few]
theorem i_few (n k : Nat) (l : List T) : f54_i_areSamples (n + 1) k l = some (decide ((k : Int) ≤ 256)) := by rw [f54_i_areSamples]

def two (a b : Nat) : Bool := decide ((a : Int) ≤ 256) && (decide ((a : Int) > 0) && ((a : Int) == (b : Int)))
theorem s_two (n a b : Nat) (l r : List T) : f45_s_l10Two (n + 2) a l b r = some (two a b) := by
  rw [f45_s_l10Two, s_few]
  unfold two
  cases decide ((a : Int) ≤ 256) <;> cases decide ((a : Int) > 0) <;> rfl
theorem i_two (n a b : Nat) (l r : List T) : f48_i_areSides (n + 2) a l b r = some (two a b) := by
  rw [f48_i_areSides, i_few]
  unfold two
  have : ((b : Int) == (a : Int)) = ((a : Int) == (b : Int)) := by rw [Bool.eq_iff_iff]; simp only [beq_iff_eq]; exact eq_comm
  cases decide ((a : Int) ≤ 256) <;> cases decide ((a : Int) > 0) <;> simp only [bd, br, this, Bool.true_and, Bool.false_and]
theorem two_eq {a b : Nat} (h : two a b = true) : b = a ∧ a ≤ 256 := by
  unfold two at h
  simp only [Bool.and_eq_true, decide_eq_true_eq, beq_iff_eq] at h
  omega

theorem means (n n' : Nat) (xs : List Nat) (hn : 300 < n) (hn' : 300 < n') :
    ∃ r, f61_s_RootMean (n + 4) xs.length (fls .f32 xs) = some r ∧ f62_i_RootMean (n' + 4) xs.length (fls .f32 xs) = some r := by
  rw [f61_s_RootMean, f62_i_RootMean, s_few, i_few]
  simp only [bd]
  by_cases h0 : (xs.length : Int) ≤ 256
  case neg => rw [decide_eq_false h0]; exact ⟨_, rfl, rfl⟩
  rw [decide_eq_true h0]
  cases h1 : (((xs.length : Nat) : Int) == (0 : Int))
  · obtain ⟨b, b1, b2⟩ := dots (n + 2) (n' + 2) xs xs rfl (by omega) (by omega) (by omega)
    simp only [Bool.not_true, br, b1, b2, s_root, i_root]
    exact ⟨_, rfl, rfl⟩
  · exact ⟨_, rfl, rfl⟩
theorem both (n n' : Nat) (xs ys : List Nat) (hn : 300 < n) (hn' : 300 < n') :
    ∃ r, f25_s_BalanceOf (n + 5) xs.length (fls .f32 xs) ys.length (fls .f32 ys) = some r ∧ f26_i_BalanceOf (n' + 5) xs.length (fls .f32 xs) ys.length (fls .f32 ys) = some r := by
  rw [f25_s_BalanceOf, f26_i_BalanceOf, s_two, i_two]
  simp only [bd]
  cases h : two xs.length ys.length
  · exact ⟨_, rfl, rfl⟩
  · obtain ⟨⟨a, a'⟩, a1, a2⟩ := means n n' xs hn hn'
    obtain ⟨⟨b, b'⟩, b1, b2⟩ := means n n' ys hn hn'
    simp only [Bool.not_true, br, a1, a2, b1, b2]
    cases feq FloatKind.f32 (fadd FloatKind.f32 b a) 0 <;> exact ⟨_, rfl, rfl⟩

theorem exact_ (xs : List Nat) (hg : ∀ x ∈ xs, GoodF .f32 x) (hl : xs.length ≤ maxLen) (ys : List Nat) (hg' : ∀ x ∈ ys, GoodF .f32 x) (hl' : ys.length ≤ maxLen) : ∃ n, f7_l_FnExactBalanceOf n xs.length (fls .f32 xs) ys.length (fls .f32 ys) = some true := by
  refine ⟨xs.length + ys.length + 600, ?_⟩
  rw [f7_l_FnExactBalanceOf]
  cases h : decide (((xs.length : Nat) : Int) > (1048576 : Int))
  · cases h' : decide (((ys.length : Nat) : Int) > (1048576 : Int))
    · have hx : xs.length ≤ 1048576 := by simp at h; omega
      have hy : ys.length ≤ 1048576 := by simp at h'; omega
      obtain ⟨⟨x, c⟩, h1, h2⟩ := both (xs.length + ys.length + 594) (xs.length + ys.length + 594) xs ys (by omega) (by omega)
      simp only [br, copied (xs.length + ys.length + 598) xs hx (by omega), copied (xs.length + ys.length + 598) ys hy (by omega), bd, h1, h2, fltToFlt_wide, same_self, beq_self_eq_true, Bool.not_true, eq_self (xs.length + ys.length + 597) xs (by omega) (by omega), eq_self (xs.length + ys.length + 597) ys (by omega) (by omega)]
    · rfl
  · rfl
theorem law7 : ∀ args, LawArgs E Try.f7.params.toList args → ∃ N os, evalFn E N 7 args = some ⟨[⟨false, [.leaf], [.bool true]⟩], os⟩ := by
  intro args h0
  have hp : Try.f7.params.toList = [26, 26] := by kernel_rfl
  rw [hp] at h0
  obtain ⟨ts0, r0, rfl, hw0, h1⟩ := h0.cons_inv (d := ⟨false, 1, 24, [.sl .own [.leaf]], [.lst 0 []], .slc 22⟩) (by kernel_rfl)
  obtain ⟨n0, cs0, rfl, gl0, hs0⟩ := hw0.slc_inv (e := 22) (d := ⟨false, 1, 24, [.sl .own [.leaf]], [.lst 0 []], .slc 22⟩) (by kernel_rfl) rfl
  obtain ⟨a0, rfl, rfl, g0⟩ := hs0.flts (k := .f32) (d := ⟨false, 1, 4, [.leaf], [.flt .f32 0], .flt .f32⟩) (by kernel_rfl) rfl
  obtain ⟨ts1, r1, rfl, hw1, h2⟩ := h1.cons_inv (d := ⟨false, 1, 24, [.sl .own [.leaf]], [.lst 0 []], .slc 22⟩) (by kernel_rfl)
  obtain ⟨n1, cs1, rfl, gl1, hs1⟩ := hw1.slc_inv (e := 22) (d := ⟨false, 1, 24, [.sl .own [.leaf]], [.lst 0 []], .slc 22⟩) (by kernel_rfl) rfl
  obtain ⟨a1, rfl, rfl, g1⟩ := hs1.flts (k := .f32) (d := ⟨false, 1, 4, [.leaf], [.flt .f32 0], .flt .f32⟩) (by kernel_rfl) rfl
  obtain rfl := h2.nil_inv
  obtain ⟨N, hN⟩ := exact_ a0 g0 gl0 a1 g1 gl1
  exact ⟨N, _, f7_l_FnExactBalanceOf.ok N (a0.length, fls .f32 a0, a1.length, fls .f32 a1) true hN⟩


end Go.Proofs.Ytklihgoobdbamaa.D
end
section
/- FnExactBalanceOf holds: for every input the law returns true, and its arguments read as before. -/
namespace Go.Proofs.Ytklihgoobdbamaa.fnExactBalanceOf
open Go Go.ChangeShapes Go.WideShapes Go.ChangeAt Go.RowKit Go.Desk
set_option linter.unusedVariables false
theorem own : ownKnob Try.prog.godebug = none := by kernel_rfl
theorem laidOut : laidOutB Try.prog = true := by kernel_rfl
set_option maxRecDepth 100000 in
theorem lifted (os : Os) (started : os.Started) (H : Type) (enc : TypeId × Value → H) :
    ReturnsInHanded {} Try.checked os 7 .any (Rows.fnExactBalanceOfSpec.pre6 enc Try.prog Try.f7 Rows.fnExactBalanceOfRow.domain false) (Rows.fnExactBalanceOfSpec.post enc Try.prog Try.f7 false true false false) := by
  refine returnsInHanded_of_change (C := Try.checked) own started (by kernel_rfl) Try.func7
    (ChangeSpec.witness6 (enc := enc) (C := Try.checked) false ⟨#[], #[.slice none 0 0, .slice none 0 0], []⟩ 8 (by kernel_rfl) (by kernel_rfl) (by kernel_rfl) (by kernel_rfl)) ?_
  intro W base args ds gs before hval hW hcnd _
  exact law_contract (c := D.c7) Try.checked.mixed D.tysOk D.fnOk Try.func7 (by kernel_rfl) (by kernel_rfl) (by kernel_rfl) Try.underlying4 rfl
    (fun ds h => by
      rw [show Try.f7.params.toList.length = 2 by kernel_rfl] at h
      match ds, h with
      | [_, _], _ => rfl)
    laidOut (N := 8) (by kernel_rfl) (by kernel_rfl) D.law7 hval hW
theorem over : Rows.fnExactBalanceOfRow.holds Try.pinned (OpenSpec.ofChange Rows.fnExactBalanceOfSpec) :=
  OpenClaim.holds_of_wide 7 Try.f7 rfl rfl rfl rfl rfl rfl rfl ⟨rfl, rfl, rfl, rfl, rfl⟩ rfl rfl rfl rfl rfl (by kernel_rfl) Try.func7 (by kernel_rfl)
    (of_decide_eq_true (by kernel_rfl)) (by unfold Func.isWrapper; first | (rw [if_pos (by decide +kernel)]; kernel_rfl) | (rw [if_neg (by decide +kernel)]; exact ⟨rfl, rfl⟩))
    (fun os started H enc _ => lifted os started H enc)
theorem proved : Rows.FnExactBalanceOfSaid := over
#print axioms proved
end Go.Proofs.Ytklihgoobdbamaa.fnExactBalanceOf
namespace Go.Proofs.Ytklihgoobdbamaa
/-- The row, under a short name, for the claim. -/
theorem fnExactBalanceOf_holds : Rows.FnExactBalanceOfSaid := fnExactBalanceOf.proved
end Go.Proofs.Ytklihgoobdbamaa
end
