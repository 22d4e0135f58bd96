/- FnExactLoudnessOf holds: for every input the law returns true, and its arguments read as before. -/
import Derived.Test.YtklihgoobdbamaaChecked
import Derived.Test.YtklihgoobdbamaaDeskD
import Derived.KernelRfl
import Derived.Test.YtklihgoobdbamaaRows
import Derived.WalkKit
import Derived.ProofKit
import Derived.OpenShut
import Derived.ShutString
import Derived.ChangeOld
import Derived.Below
import Derived.SizedLaws
set_option linter.all false
section
/- The tables of the reading: types and functions of the translation, with what is kept at each region's beginning (written by a program of this workplace). -/
namespace Go.Proofs.Ytklihgoobdbamaa.D
open Go Go.Desk
def bodyOf (f : Func) : Code := match f.body with
  | some c => c
  | none => .skip
def tyTab : List (Nat × TD) := [
  (2, ⟨false, 1, 8, [.leaf], [.int .i64 0], .int .i64⟩),
  (3, ⟨false, 1, 8, [.leaf], [.int .i64 0], .int .i64⟩),
  (4, ⟨false, 1, 1, [.leaf], [.bool false], .bool⟩),
  (22, ⟨false, 1, 4, [.leaf], [.flt .f32 0], .flt .f32⟩),
  (26, ⟨false, 1, 24, [.sl .own [.leaf]], [.lst 0 []], .slc 22⟩),
  (31, ⟨false, 1, 8, [.leaf], [.flt .f64 0], .flt .f64⟩)]
noncomputable def c4 : Code := bodyOf Try.f4
noncomputable def c12 : Code := bodyOf Try.f12
noncomputable def c13 : Code := bodyOf Try.f13
noncomputable def c14 : Code := bodyOf Try.f14
noncomputable def c15 : Code := bodyOf Try.f15
noncomputable def c16 : Code := bodyOf Try.f16
noncomputable def c39 : Code := bodyOf Try.f39
noncomputable def c40 : Code := bodyOf Try.f40
noncomputable def c41 : Code := bodyOf Try.f41
noncomputable def c42 : Code := bodyOf Try.f42
noncomputable def c43 : Code := bodyOf Try.f43
noncomputable def c44 : Code := bodyOf Try.f44
noncomputable def c46 : Code := bodyOf Try.f46
noncomputable def c49 : Code := bodyOf Try.f49
noncomputable def c51 : Code := bodyOf Try.f51
noncomputable def c52 : Code := bodyOf Try.f52
noncomputable def c54 : Code := bodyOf Try.f54
noncomputable def c55 : Code := bodyOf Try.f55
noncomputable def c77 : Code := bodyOf Try.f77
noncomputable def fnTab : List (Nat × FD) := [
  (4, .code c4 [.val, .val, .val, .val] [] [(8, none)] [(0, [0, 1, 2, 3]), (1, [0, 1, 2, 3]), (2, []), (3, [0, 1, 2, 3]), (4, [0, 1, 2, 3, 9, 10]), (5, [0, 1, 2, 3, 9, 10, 11]), (6, [0, 9, 10, 11, 12, 13]), (7, []), (8, [0, 11]), (9, []), (10, [])]),
  (12, .code c12 [.val, .val, .val, .val] [] [(8, none), (9, none)] [(0, [0, 1, 2, 3]), (1, [0, 1, 2, 3]), (2, []), (3, [0, 1, 2, 3]), (4, [10]), (5, []), (6, [10]), (7, [10, 11]), (8, [10]), (9, []), (10, [10])]),
  (13, .code c13 [.val] [] [(2, none)] [(0, [0]), (1, [0]), (2, [0, 3]), (3, [0, 3, 4]), (4, [0, 3, 4]), (5, [0, 3, 4]), (6, [3]), (1000003, [3])]),
  (14, .code c14 [.val, .val, .val, .val] [] [(8, none), (9, none)] [(0, [0, 1, 2, 3]), (1, [0, 1, 2, 3]), (2, [3, 10, 11]), (3, []), (4, [3, 10]), (5, [12, 13]), (6, []), (7, [12, 13]), (8, [12, 13]), (9, []), (10, [13])]),
  (15, .code c15 [.val, .val] [] [(4, none)] [(0, [0, 1]), (1, [0, 1]), (2, [0, 1]), (3, [0, 1]), (4, [0, 1]), (5, [0, 1])]),
  (16, .code c16 [.val, .val] [] [(4, none)] [(0, [0, 1]), (1, [0, 1]), (2, []), (3, [0, 1]), (4, [0, 1, 5]), (5, [0, 1, 5]), (6, [0, 1, 5]), (7, []), (8, []), (1000004, [4])]),
  (39, .code c39 [.val, .val, .val] [] [(6, none)] [(0, [0, 1, 2]), (1, [0, 1, 2])]),
  (40, .code c40 [.val, .val] [] [(4, none)] [(0, [0, 1]), (1, [0, 1]), (2, [0, 1, 5]), (3, [0, 1, 5, 6]), (4, [0, 1, 5, 6]), (5, [0, 1, 5, 6]), (6, [0, 1, 5, 6]), (7, [5]), (1000003, [5])]),
  (41, .code c41 [.val, .val, .val] [] [(6, none)] [(0, [0, 1, 2]), (1, [0, 1, 2]), (2, [0, 1, 2, 7]), (3, [0, 1, 2, 7, 8]), (4, [0, 1, 2, 7, 8]), (5, [0, 1, 2, 7, 8]), (6, [0, 1, 2, 7, 8, 9]), (7, [7]), (1000003, [7])]),
  (42, .code c42 [.val] [] [(2, none)] [(0, [0]), (1, [0]), (2, [0, 3]), (3, [0, 3, 4]), (4, [0, 3, 4]), (5, [0, 3, 4]), (6, [3]), (1000003, [3])]),
  (43, .code c43 [.val, .val, .val] [] [(6, none), (7, none)] [(0, [0, 1, 2]), (1, [0, 1, 2]), (2, []), (3, [0, 1, 2]), (4, [0, 1, 2, 8]), (5, [0, 1, 2, 8, 9]), (6, [0, 1, 2, 8, 9]), (7, [0, 1, 2, 8, 9]), (8, [0, 1, 2, 8, 9, 10]), (9, [8]), (1000005, [8])]),
  (44, .code c44 [.val, .val] [] [(4, none), (5, none)] [(0, [0, 1]), (1, [0, 1]), (2, [0, 1, 6]), (3, [0, 1, 6, 9, 10, 11]), (4, [0, 1, 6, 9, 10, 11]), (5, [0, 1, 6, 8, 9, 10, 11]), (6, [0, 1, 6, 8, 9, 10, 11]), (7, [0, 1, 6, 9, 10, 11]), (8, [6]), (1000003, [6])]),
  (46, .code c46 [.val, .val] [] [(4, none)] [(0, [0, 1]), (1, [0, 1]), (2, [0, 1, 5]), (3, [0, 1, 5, 6]), (4, [0, 1, 5, 6]), (5, [0, 1, 5, 6]), (6, [5]), (1000003, [5])]),
  (49, .code c49 [.val, .val] [] [(4, none)] [(0, [0, 1]), (1, [0, 1]), (2, [0, 1, 5]), (3, [0, 1, 5, 8, 9]), (4, [0, 1, 5, 8, 9]), (5, [0, 1, 5, 6, 8, 9]), (6, [0, 1, 5, 8, 9]), (7, [5]), (1000003, [5])]),
  (51, .code c51 [.val] [] [(2, none)] [(0, [0]), (1, [0])]),
  (52, .code c52 [.val, .val, .val] [] [(6, none)] [(0, [0, 1, 2]), (1, [0, 1, 2])]),
  (54, .code c54 [.val] [] [(2, none)] [(0, [0]), (1, [0])]),
  (55, .code c55 [.val, .val, .val] [] [(6, none)] [(0, [0, 1, 2]), (1, [0, 1, 2])]),
  (77, .code c77 [.val] [] [(2, none)] [(0, [0]), (1, [0]), (2, [0, 3]), (3, [0, 3, 6, 7, 8]), (4, [0, 3, 6, 7, 8]), (5, [0, 3, 5, 6, 7, 8]), (6, [0, 3, 6, 7, 8]), (7, [3]), (1000003, [3])])]
noncomputable def E : Env := ⟨fun t => lookT tyTab t, lookF fnTab⟩
noncomputable def fdAt (n : Nat) : FD := match lookF fnTab n with
  | some d => d
  | none => .ext fun _ => none
noncomputable def keepAt (n : Nat) : List (Nat × List Nat) := match lookF fnTab n with
  | some d => d.keep
  | none => []
theorem tysOk : TysOk Try.prog E := tysOk_of (l := tyTab) (fun _ => rfl) (by kernel_rfl)
theorem ft4 : FnTab Try.prog E 4 (fdAt 4) := fnTab_code (c := c4) (modes := (fdAt 4).ms) (outs := (fdAt 4).os) (results := (fdAt 4).rs) (keep := (fdAt 4).keep) Try.func4 (by kernel_rfl) (by kernel_rfl) (by kernel_rfl)
theorem ft12 : FnTab Try.prog E 12 (fdAt 12) := fnTab_code (c := c12) (modes := (fdAt 12).ms) (outs := (fdAt 12).os) (results := (fdAt 12).rs) (keep := (fdAt 12).keep) Try.func12 (by kernel_rfl) (by kernel_rfl) (by kernel_rfl)
theorem ft13 : FnTab Try.prog E 13 (fdAt 13) := fnTab_code (c := c13) (modes := (fdAt 13).ms) (outs := (fdAt 13).os) (results := (fdAt 13).rs) (keep := (fdAt 13).keep) Try.func13 (by kernel_rfl) (by kernel_rfl) (by kernel_rfl)
theorem ft14 : FnTab Try.prog E 14 (fdAt 14) := fnTab_code (c := c14) (modes := (fdAt 14).ms) (outs := (fdAt 14).os) (results := (fdAt 14).rs) (keep := (fdAt 14).keep) Try.func14 (by kernel_rfl) (by kernel_rfl) (by kernel_rfl)
theorem ft15 : FnTab Try.prog E 15 (fdAt 15) := fnTab_code (c := c15) (modes := (fdAt 15).ms) (outs := (fdAt 15).os) (results := (fdAt 15).rs) (keep := (fdAt 15).keep) Try.func15 (by kernel_rfl) (by kernel_rfl) (by kernel_rfl)
theorem ft16 : FnTab Try.prog E 16 (fdAt 16) := fnTab_code (c := c16) (modes := (fdAt 16).ms) (outs := (fdAt 16).os) (results := (fdAt 16).rs) (keep := (fdAt 16).keep) Try.func16 (by kernel_rfl) (by kernel_rfl) (by kernel_rfl)
theorem ft39 : FnTab Try.prog E 39 (fdAt 39) := fnTab_code (c := c39) (modes := (fdAt 39).ms) (outs := (fdAt 39).os) (results := (fdAt 39).rs) (keep := (fdAt 39).keep) Try.func39 (by kernel_rfl) (by kernel_rfl) (by kernel_rfl)
theorem ft40 : FnTab Try.prog E 40 (fdAt 40) := fnTab_code (c := c40) (modes := (fdAt 40).ms) (outs := (fdAt 40).os) (results := (fdAt 40).rs) (keep := (fdAt 40).keep) Try.func40 (by kernel_rfl) (by kernel_rfl) (by kernel_rfl)
theorem ft41 : FnTab Try.prog E 41 (fdAt 41) := fnTab_code (c := c41) (modes := (fdAt 41).ms) (outs := (fdAt 41).os) (results := (fdAt 41).rs) (keep := (fdAt 41).keep) Try.func41 (by kernel_rfl) (by kernel_rfl) (by kernel_rfl)
theorem ft42 : FnTab Try.prog E 42 (fdAt 42) := fnTab_code (c := c42) (modes := (fdAt 42).ms) (outs := (fdAt 42).os) (results := (fdAt 42).rs) (keep := (fdAt 42).keep) Try.func42 (by kernel_rfl) (by kernel_rfl) (by kernel_rfl)
theorem ft43 : FnTab Try.prog E 43 (fdAt 43) := fnTab_code (c := c43) (modes := (fdAt 43).ms) (outs := (fdAt 43).os) (results := (fdAt 43).rs) (keep := (fdAt 43).keep) Try.func43 (by kernel_rfl) (by kernel_rfl) (by kernel_rfl)
theorem ft44 : FnTab Try.prog E 44 (fdAt 44) := fnTab_code (c := c44) (modes := (fdAt 44).ms) (outs := (fdAt 44).os) (results := (fdAt 44).rs) (keep := (fdAt 44).keep) Try.func44 (by kernel_rfl) (by kernel_rfl) (by kernel_rfl)
theorem ft46 : FnTab Try.prog E 46 (fdAt 46) := fnTab_code (c := c46) (modes := (fdAt 46).ms) (outs := (fdAt 46).os) (results := (fdAt 46).rs) (keep := (fdAt 46).keep) Try.func46 (by kernel_rfl) (by kernel_rfl) (by kernel_rfl)
theorem ft49 : FnTab Try.prog E 49 (fdAt 49) := fnTab_code (c := c49) (modes := (fdAt 49).ms) (outs := (fdAt 49).os) (results := (fdAt 49).rs) (keep := (fdAt 49).keep) Try.func49 (by kernel_rfl) (by kernel_rfl) (by kernel_rfl)
theorem ft51 : FnTab Try.prog E 51 (fdAt 51) := fnTab_code (c := c51) (modes := (fdAt 51).ms) (outs := (fdAt 51).os) (results := (fdAt 51).rs) (keep := (fdAt 51).keep) Try.func51 (by kernel_rfl) (by kernel_rfl) (by kernel_rfl)
theorem ft52 : FnTab Try.prog E 52 (fdAt 52) := fnTab_code (c := c52) (modes := (fdAt 52).ms) (outs := (fdAt 52).os) (results := (fdAt 52).rs) (keep := (fdAt 52).keep) Try.func52 (by kernel_rfl) (by kernel_rfl) (by kernel_rfl)
theorem ft54 : FnTab Try.prog E 54 (fdAt 54) := fnTab_code (c := c54) (modes := (fdAt 54).ms) (outs := (fdAt 54).os) (results := (fdAt 54).rs) (keep := (fdAt 54).keep) Try.func54 (by kernel_rfl) (by kernel_rfl) (by kernel_rfl)
theorem ft55 : FnTab Try.prog E 55 (fdAt 55) := fnTab_code (c := c55) (modes := (fdAt 55).ms) (outs := (fdAt 55).os) (results := (fdAt 55).rs) (keep := (fdAt 55).keep) Try.func55 (by kernel_rfl) (by kernel_rfl) (by kernel_rfl)
theorem ft77 : FnTab Try.prog E 77 (fdAt 77) := fnTab_code (c := c77) (modes := (fdAt 77).ms) (outs := (fdAt 77).os) (results := (fdAt 77).rs) (keep := (fdAt 77).keep) Try.func77 (by kernel_rfl) (by kernel_rfl) (by kernel_rfl)
theorem allFns : AllFns Try.prog E fnTab := .cons ft4 (.cons ft12 (.cons ft13 (.cons ft14 (.cons ft15 (.cons ft16 (.cons ft39 (.cons ft40 (.cons ft41 (.cons ft42 (.cons ft43 (.cons ft44 (.cons ft46 (.cons ft49 (.cons ft51 (.cons ft52 (.cons ft54 (.cons ft55 (.cons ft77 (.nil)))))))))))))))))))
theorem fnOk : ∀ f fd, E.fn f = some fd → FnTab Try.prog E f fd := fnTab_of (l := fnTab) (fun _ => rfl) allFns
end Go.Proofs.Ytklihgoobdbamaa.D
end
section
/- Plain functions for the law's Go functions, each tied to the reading by the kernel (printed by a program of this workplace). -/
namespace Go.Proofs.Ytklihgoobdbamaa.D
open Go Go.Desk
set_option linter.unusedVariables false
def f13_l_toFloat32S.l0 (n : Nat) : Nat → Nat → List T → Nat → List T → Int → Option (Nat × List T)
  | 0, _, _, _, _, _ => none
  | m + 1, n1, l2, n3, l4, i5 =>
    br (decide (i5 < ((n1 : Nat) : Int))) (
     gd ((decide (((0 : Int) ≤ i5) ∧ (i5 < ((n1 : Nat) : Int)))) && (okAt [(CK.flt FloatKind.f32)] l2 (Int.toNat i5))) (
     gd (decide (((0 : Int) ≤ i5) ∧ (i5 < ((n3 : Nat) : Int)))) (
     gd (Nat.ble ((Int.toNat i5) + 1) (List.length l4)) (
     let l6 : List T := (setN l4 (Int.toNat i5) [(T.flt FloatKind.f32 (fAt l2 (Int.toNat i5)))])
     f13_l_toFloat32S.l0 n m n1 l2 n3 l6 (IntKind.i64.wrap (i5 + (1 : Int))))))) (
     some (n3, l4))
def f13_l_toFloat32S : Nat → Nat → List T → Option (Nat × List T)
  | 0, _, _ => none
  | n + 1, n1, l2 =>
    gd (decide (((0 : Int) ≤ ((n1 : Nat) : Int)) ∧ (((n1 : Nat) : Int) ≤ (2147483648 : Int)))) (
    let l3 : List T := (reps n1 [(T.flt FloatKind.f32 0)])
    bd (f13_l_toFloat32S.l0 n n n1 l2 n1 l3 (0 : Int)) fun r4 =>
    let n5 : Nat := r4.1
    let l6 : List T := r4.2
    some (n5, l6))
def sg_l : Sig (Nat × List T) where
  pk := fun v => [.lst v.1 v.2]
  up := fun ls => match ls with
    | [.lst a0 a1] => some (a0, a1)
    | _ => none
  ok := by
    intro ls v h
    split at h
    · cases h; rfl
    · cases h

def sg_lli : Sig (Nat × List T × Nat × List T × Int) where
  pk := fun v => [.lst v.1 v.2.1, .lst v.2.2.1 v.2.2.2.1, .int v.2.2.2.2]
  up := fun ls => match ls with
    | [.lst a0 a1, .lst a2 a3, .int a4] => some (a0, a1, a2, a3, a4)
    | _ => none
  ok := by
    intro ls v h
    split at h
    · cases h; rfl
    · cases h

def f13_l_toFloat32S.l0.P : AS := ⟨[(0, .val false [.sl .shr [.leaf]] [.lst 0 []] [] 0), (3, .val false [.sl .own [.leaf]] [.lst 0 []] [] 0), (4, .val false [.leaf] [.int .i64 0] [] 0)], 0⟩
def f13_l_toFloat32S.l0.A : Alt (Nat × List T) := .one (.exit 0) ⟨[(3, .val false [.sl .own [.leaf]] [.lst 0 []] [] 0)], 0⟩ sg_l
def f13_l_toFloat32S.l0.F (n m : Nat) (v : Nat × List T × Nat × List T × Int) := f13_l_toFloat32S.l0 n m v.1 v.2.1 v.2.2.1 v.2.2.2.1 v.2.2.2.2
def f13_l_toFloat32S.l0.W (n : Nat) : LpW := .of 48 f13_l_toFloat32S.l0.P sg_lli f13_l_toFloat32S.l0.A (f13_l_toFloat32S.l0.F n n)
def f13_l_toFloat32S.P : List Arg := [⟨.val, ⟨false, [.sl .shr [.leaf]], [.lst 0 []]⟩⟩]
def f13_l_toFloat32S.A : RAlt (Nat × List T) := .one ⟨[⟨false, [.sl .own [.leaf]], [.lst 0 []]⟩], [none]⟩ sg_l
def f13_l_toFloat32S.F (n : Nat) (v : Nat × List T) := f13_l_toFloat32S n v.1 v.2
noncomputable def f13_l_toFloat32S.O (n : Nat) : Orc := orcOf (E := E) [] [f13_l_toFloat32S.l0.W n] n
theorem f13_l_toFloat32S.l0.ok (n : Nat) : LpOk (f13_l_toFloat32S.O n) E (evalFn E n) n (keepAt 13) (.loop (loopAt c13 0)) :=
  lp_pure f13_l_toFloat32S.l0.P sg_lli f13_l_toFloat32S.l0.A (f13_l_toFloat32S.l0.F n) (orcOf_cf _ _ n) (lpOk_of (bs := []) (by kernel_rfl) .nil) (fun _ => rfl) (fun _ _ => by kernel_rfl) (fun _ _ _ => by kernel_rfl)
theorem f13_l_toFloat32S.ok : ∀ n v x, f13_l_toFloat32S.F n v = some x → evalFn E n 13 (flAs f13_l_toFloat32S.P (sg_l.pk v)) = some (f13_l_toFloat32S.A.enc x) :=
  fn_pure (modes := (fdAt 13).ms) (outs := (fdAt 13).os) (results := (fdAt 13).rs) f13_l_toFloat32S.O (c := c13) (keep := keepAt 13) (by kernel_rfl) (fun n => orcOf_cf _ _ n) (fun n => lpOk_of (bs := [loopAt c13 0]) (by kernel_rfl) (.cons (f13_l_toFloat32S.l0.ok n) .nil)) (fun _ => rfl) (fun _ _ => by kernel_rfl)
noncomputable def f13_l_toFloat32S.w : FnW E := fnW 13 f13_l_toFloat32S.P sg_l f13_l_toFloat32S.A f13_l_toFloat32S.F f13_l_toFloat32S.ok

def f51_s_l01Few : Nat → Nat → List T → Option (Bool)
  | 0, _, _ => none
  | n + 1, n1, l2 =>
    some (decide (((n1 : Nat) : Int) ≤ (256 : Int)))
def sg_b : Sig (Bool) where
  pk := fun v => [.bool v]
  up := fun ls => match ls with
    | [.bool a0] => some a0
    | _ => none
  ok := by
    intro ls v h
    split at h
    · cases h; rfl
    · cases h

def f51_s_l01Few.P : List Arg := [⟨.val, ⟨false, [.sl .shr [.leaf]], [.lst 0 []]⟩⟩]
def f51_s_l01Few.A : RAlt (Bool) := .one ⟨[⟨false, [.leaf], [.bool false]⟩], [none]⟩ sg_b
def f51_s_l01Few.F (n : Nat) (v : Nat × List T) := f51_s_l01Few n v.1 v.2
noncomputable def f51_s_l01Few.O (n : Nat) : Orc := orcOf (E := E) [] [] n
theorem f51_s_l01Few.ok : ∀ n v x, f51_s_l01Few.F n v = some x → evalFn E n 51 (flAs f51_s_l01Few.P (sg_l.pk v)) = some (f51_s_l01Few.A.enc x) :=
  fn_pure (modes := (fdAt 51).ms) (outs := (fdAt 51).os) (results := (fdAt 51).rs) f51_s_l01Few.O (c := c51) (keep := keepAt 51) (by kernel_rfl) (fun n => orcOf_cf _ _ n) (fun n => lpOk_of (bs := []) (by kernel_rfl) .nil) (fun _ => rfl) (fun _ _ => by kernel_rfl)
noncomputable def f51_s_l01Few.w : FnW E := fnW 51 f51_s_l01Few.P sg_l f51_s_l01Few.A f51_s_l01Few.F f51_s_l01Few.ok

def f52_s_l00In : Nat → Int → Int → Int → Option (Bool)
  | 0, _, _, _ => none
  | n + 1, i1, i2, i3 =>
    br (decide (i1 ≥ i2)) (
     some (decide (i1 ≤ i3))) (
     some false)
def sg_iii : Sig (Int × Int × Int) where
  pk := fun v => [.int v.1, .int v.2.1, .int v.2.2]
  up := fun ls => match ls with
    | [.int a0, .int a1, .int a2] => some (a0, a1, a2)
    | _ => none
  ok := by
    intro ls v h
    split at h
    · cases h; rfl
    · cases h

def f52_s_l00In.P : List Arg := [⟨.val, ⟨false, [.leaf], [.int .i64 0]⟩⟩, ⟨.val, ⟨false, [.leaf], [.int .i64 0]⟩⟩, ⟨.val, ⟨false, [.leaf], [.int .i64 0]⟩⟩]
def f52_s_l00In.A : RAlt (Bool) := .one ⟨[⟨false, [.leaf], [.bool false]⟩], [none, none, none]⟩ sg_b
def f52_s_l00In.F (n : Nat) (v : Int × Int × Int) := f52_s_l00In n v.1 v.2.1 v.2.2
noncomputable def f52_s_l00In.O (n : Nat) : Orc := orcOf (E := E) [] [] n
theorem f52_s_l00In.ok : ∀ n v x, f52_s_l00In.F n v = some x → evalFn E n 52 (flAs f52_s_l00In.P (sg_iii.pk v)) = some (f52_s_l00In.A.enc x) :=
  fn_pure (modes := (fdAt 52).ms) (outs := (fdAt 52).os) (results := (fdAt 52).rs) f52_s_l00In.O (c := c52) (keep := keepAt 52) (by kernel_rfl) (fun n => orcOf_cf _ _ n) (fun n => lpOk_of (bs := []) (by kernel_rfl) .nil) (fun _ => rfl) (fun _ _ => by kernel_rfl)
noncomputable def f52_s_l00In.w : FnW E := fnW 52 f52_s_l00In.P sg_iii f52_s_l00In.A f52_s_l00In.F f52_s_l00In.ok

def f39_s_l10Windows : Nat → Nat → List T → Int → Int → Option (Bool)
  | 0, _, _, _, _ => none
  | n + 1, n1, l2, i3, i4 =>
    bd (f51_s_l01Few n n1 l2) fun r5 =>
    let b6 : Bool := r5
    br b6 (
     bd (f52_s_l00In n i3 (1 : Int) (256 : Int)) fun r7 =>
     let b8 : Bool := r7
     br b8 (
      bd (f52_s_l00In n i4 (1 : Int) (256 : Int)) fun r9 =>
      let b10 : Bool := r9
      some b10) (
      some false)) (
     some false)
def sg_lii : Sig (Nat × List T × Int × Int) where
  pk := fun v => [.lst v.1 v.2.1, .int v.2.2.1, .int v.2.2.2]
  up := fun ls => match ls with
    | [.lst a0 a1, .int a2, .int a3] => some (a0, a1, a2, a3)
    | _ => none
  ok := by
    intro ls v h
    split at h
    · cases h; rfl
    · cases h

def f39_s_l10Windows.P : List Arg := [⟨.val, ⟨false, [.sl .shr [.leaf]], [.lst 0 []]⟩⟩, ⟨.val, ⟨false, [.leaf], [.int .i64 0]⟩⟩, ⟨.val, ⟨false, [.leaf], [.int .i64 0]⟩⟩]
def f39_s_l10Windows.A : RAlt (Bool) := .one ⟨[⟨false, [.leaf], [.bool false]⟩], [none, none, none]⟩ sg_b
def f39_s_l10Windows.F (n : Nat) (v : Nat × List T × Int × Int) := f39_s_l10Windows n v.1 v.2.1 v.2.2.1 v.2.2.2
noncomputable def f39_s_l10Windows.O (n : Nat) : Orc := orcOf (E := E) [f51_s_l01Few.w, f52_s_l00In.w] [] n
theorem f39_s_l10Windows.ok : ∀ n v x, f39_s_l10Windows.F n v = some x → evalFn E n 39 (flAs f39_s_l10Windows.P (sg_lii.pk v)) = some (f39_s_l10Windows.A.enc x) :=
  fn_pure (modes := (fdAt 39).ms) (outs := (fdAt 39).os) (results := (fdAt 39).rs) f39_s_l10Windows.O (c := c39) (keep := keepAt 39) (by kernel_rfl) (fun n => orcOf_cf _ _ n) (fun n => lpOk_of (bs := []) (by kernel_rfl) .nil) (fun _ => rfl) (fun _ _ => by kernel_rfl)
noncomputable def f39_s_l10Windows.w : FnW E := fnW 39 f39_s_l10Windows.P sg_lii f39_s_l10Windows.A f39_s_l10Windows.F f39_s_l10Windows.ok

def f46_s_l01Dot.l0 (n : Nat) : Nat → Nat → List T → Nat → List T → Nat → Int → Option (Nat)
  | 0, _, _, _, _, _, _ => none
  | m + 1, n1, l2, n3, l4, x5, i6 =>
    br (decide (i6 < ((n1 : Nat) : Int))) (
     gd ((decide (((0 : Int) ≤ i6) ∧ (i6 < ((n1 : Nat) : Int)))) && (okAt [(CK.flt FloatKind.f32)] l2 (Int.toNat i6))) (
     gd ((decide (((0 : Int) ≤ i6) ∧ (i6 < ((n3 : Nat) : Int)))) && (okAt [(CK.flt FloatKind.f32)] l4 (Int.toNat i6))) (
     let x7 : Nat := (fadd FloatKind.f32 x5 (fmul FloatKind.f32 (fAt l2 (Int.toNat i6)) (fAt l4 (Int.toNat i6))))
     f46_s_l01Dot.l0 n m n1 l2 n3 l4 x7 (IntKind.i64.wrap (i6 + (1 : Int)))))) (
     some x5)
def f46_s_l01Dot : Nat → Nat → List T → Nat → List T → Option (Nat)
  | 0, _, _, _, _ => none
  | n + 1, n1, l2, n3, l4 =>
    bd (f46_s_l01Dot.l0 n n n1 l2 n3 l4 0 (0 : Int)) fun r5 =>
    let x6 : Nat := r5
    some x6
def sg_ll : Sig (Nat × List T × Nat × List T) where
  pk := fun v => [.lst v.1 v.2.1, .lst v.2.2.1 v.2.2.2]
  up := fun ls => match ls with
    | [.lst a0 a1, .lst a2 a3] => some (a0, a1, a2, a3)
    | _ => none
  ok := by
    intro ls v h
    split at h
    · cases h; rfl
    · cases h

def sg_f : Sig (Nat) where
  pk := fun v => [.flt v]
  up := fun ls => match ls with
    | [.flt a0] => some a0
    | _ => none
  ok := by
    intro ls v h
    split at h
    · cases h; rfl
    · cases h

def sg_llfi : Sig (Nat × List T × Nat × List T × Nat × Int) where
  pk := fun v => [.lst v.1 v.2.1, .lst v.2.2.1 v.2.2.2.1, .flt v.2.2.2.2.1, .int v.2.2.2.2.2]
  up := fun ls => match ls with
    | [.lst a0 a1, .lst a2 a3, .flt a4, .int a5] => some (a0, a1, a2, a3, a4, a5)
    | _ => none
  ok := by
    intro ls v h
    split at h
    · cases h; rfl
    · cases h

def f46_s_l01Dot.l0.P : AS := ⟨[(0, .val false [.sl .shr [.leaf]] [.lst 0 []] [] 0), (1, .val false [.sl .shr [.leaf]] [.lst 0 []] [] 0), (5, .val false [.leaf] [.flt .f32 0] [] 0), (6, .val false [.leaf] [.int .i64 0] [] 0)], 0⟩
def f46_s_l01Dot.l0.A : Alt (Nat) := .one (.exit 0) ⟨[(5, .val false [.leaf] [.flt .f32 0] [] 0)], 0⟩ sg_f
def f46_s_l01Dot.l0.F (n m : Nat) (v : Nat × List T × Nat × List T × Nat × Int) := f46_s_l01Dot.l0 n m v.1 v.2.1 v.2.2.1 v.2.2.2.1 v.2.2.2.2.1 v.2.2.2.2.2
def f46_s_l01Dot.l0.W (n : Nat) : LpW := .of 48 f46_s_l01Dot.l0.P sg_llfi f46_s_l01Dot.l0.A (f46_s_l01Dot.l0.F n n)
def f46_s_l01Dot.P : List Arg := [⟨.val, ⟨false, [.sl .shr [.leaf]], [.lst 0 []]⟩⟩, ⟨.val, ⟨false, [.sl .shr [.leaf]], [.lst 0 []]⟩⟩]
def f46_s_l01Dot.A : RAlt (Nat) := .one ⟨[⟨false, [.leaf], [.flt .f32 0]⟩], [none, none]⟩ sg_f
def f46_s_l01Dot.F (n : Nat) (v : Nat × List T × Nat × List T) := f46_s_l01Dot n v.1 v.2.1 v.2.2.1 v.2.2.2
noncomputable def f46_s_l01Dot.O (n : Nat) : Orc := orcOf (E := E) [] [f46_s_l01Dot.l0.W n] n
theorem f46_s_l01Dot.l0.ok (n : Nat) : LpOk (f46_s_l01Dot.O n) E (evalFn E n) n (keepAt 46) (.loop (loopAt c46 0)) :=
  lp_pure f46_s_l01Dot.l0.P sg_llfi f46_s_l01Dot.l0.A (f46_s_l01Dot.l0.F n) (orcOf_cf _ _ n) (lpOk_of (bs := []) (by kernel_rfl) .nil) (fun _ => rfl) (fun _ _ => by kernel_rfl) (fun _ _ _ => by kernel_rfl)
theorem f46_s_l01Dot.ok : ∀ n v x, f46_s_l01Dot.F n v = some x → evalFn E n 46 (flAs f46_s_l01Dot.P (sg_ll.pk v)) = some (f46_s_l01Dot.A.enc x) :=
  fn_pure (modes := (fdAt 46).ms) (outs := (fdAt 46).os) (results := (fdAt 46).rs) f46_s_l01Dot.O (c := c46) (keep := keepAt 46) (by kernel_rfl) (fun n => orcOf_cf _ _ n) (fun n => lpOk_of (bs := [loopAt c46 0]) (by kernel_rfl) (.cons (f46_s_l01Dot.l0.ok n) .nil)) (fun _ => rfl) (fun _ _ => by kernel_rfl)
noncomputable def f46_s_l01Dot.w : FnW E := fnW 46 f46_s_l01Dot.P sg_ll f46_s_l01Dot.A f46_s_l01Dot.F f46_s_l01Dot.ok

def f41_s_l10Powers.l0 (n : Nat) : Nat → Nat → List T → Int → Int → Nat → List T → Int → Option (Nat × List T)
  | 0, _, _, _, _, _, _, _ => none
  | m + 1, n1, l2, i3, i4, n5, l6, i7 =>
    br (decide ((IntKind.i64.wrap (i7 + i3)) ≤ ((n1 : Nat) : Int))) (
     gd (decide (((0 : Int) ≤ i7) ∧ ((i7 ≤ (IntKind.i64.wrap (i7 + i3))) ∧ ((IntKind.i64.wrap (i7 + i3)) ≤ ((n1 : Nat) : Int))))) (
     let n8 : Nat := ((Int.toNat (IntKind.i64.wrap (i7 + i3))) - (Int.toNat i7))
     let l9 : List T := (List.take ((Int.toNat (IntKind.i64.wrap (i7 + i3))) - (Int.toNat i7)) (List.drop (Int.toNat i7) l2))
     bd (f46_s_l01Dot n n8 l9 n8 l9) fun r10 =>
     let x11 : Nat := r10
     gd (Nat.ble (n5 + 1) 2147483648) (
     let n12 : Nat := (n5 + 1)
     let l13 : List T := (l6 ++ (setN (reps 1 [(T.flt FloatKind.f32 0)]) 0 [(T.flt FloatKind.f32 (fdiv FloatKind.f32 x11 (FloatKind.nearest FloatKind.f32 i3)))]))
     f41_s_l10Powers.l0 n m n1 l2 i3 i4 n12 l13 (IntKind.i64.wrap (i7 + i4))))) (
     some (n5, l6))
def f41_s_l10Powers : Nat → Nat → List T → Int → Int → Option (Nat × List T)
  | 0, _, _, _, _ => none
  | n + 1, n1, l2, i3, i4 =>
    bd (f41_s_l10Powers.l0 n n n1 l2 i3 i4 0 (reps 0 [(T.flt FloatKind.f32 0)]) (0 : Int)) fun r5 =>
    let n6 : Nat := r5.1
    let l7 : List T := r5.2
    some (n6, l7)
def sg_liili : Sig (Nat × List T × Int × Int × Nat × List T × Int) where
  pk := fun v => [.lst v.1 v.2.1, .int v.2.2.1, .int v.2.2.2.1, .lst v.2.2.2.2.1 v.2.2.2.2.2.1, .int v.2.2.2.2.2.2]
  up := fun ls => match ls with
    | [.lst a0 a1, .int a2, .int a3, .lst a4 a5, .int a6] => some (a0, a1, a2, a3, a4, a5, a6)
    | _ => none
  ok := by
    intro ls v h
    split at h
    · cases h; rfl
    · cases h

def f41_s_l10Powers.l0.P : AS := ⟨[(0, .val false [.sl .shr [.leaf]] [.lst 0 []] [] 0), (1, .val false [.leaf] [.int .i64 0] [] 0), (2, .val false [.leaf] [.int .i64 0] [] 0), (7, .val false [.sl .own [.leaf]] [.lst 0 []] [] 0), (8, .val false [.leaf] [.int .i64 0] [] 0)], 0⟩
def f41_s_l10Powers.l0.A : Alt (Nat × List T) := .one (.exit 0) ⟨[(7, .val false [.sl .own [.leaf]] [.lst 0 []] [] 0)], 0⟩ sg_l
def f41_s_l10Powers.l0.F (n m : Nat) (v : Nat × List T × Int × Int × Nat × List T × Int) := f41_s_l10Powers.l0 n m v.1 v.2.1 v.2.2.1 v.2.2.2.1 v.2.2.2.2.1 v.2.2.2.2.2.1 v.2.2.2.2.2.2
def f41_s_l10Powers.l0.W (n : Nat) : LpW := .of 48 f41_s_l10Powers.l0.P sg_liili f41_s_l10Powers.l0.A (f41_s_l10Powers.l0.F n n)
def f41_s_l10Powers.P : List Arg := [⟨.val, ⟨false, [.sl .shr [.leaf]], [.lst 0 []]⟩⟩, ⟨.val, ⟨false, [.leaf], [.int .i64 0]⟩⟩, ⟨.val, ⟨false, [.leaf], [.int .i64 0]⟩⟩]
def f41_s_l10Powers.A : RAlt (Nat × List T) := .one ⟨[⟨false, [.sl .own [.leaf]], [.lst 0 []]⟩], [none, none, none]⟩ sg_l
def f41_s_l10Powers.F (n : Nat) (v : Nat × List T × Int × Int) := f41_s_l10Powers n v.1 v.2.1 v.2.2.1 v.2.2.2
noncomputable def f41_s_l10Powers.O (n : Nat) : Orc := orcOf (E := E) [f46_s_l01Dot.w] [f41_s_l10Powers.l0.W n] n
theorem f41_s_l10Powers.l0.ok (n : Nat) : LpOk (f41_s_l10Powers.O n) E (evalFn E n) n (keepAt 41) (.loop (loopAt c41 0)) :=
  lp_pure f41_s_l10Powers.l0.P sg_liili f41_s_l10Powers.l0.A (f41_s_l10Powers.l0.F n) (orcOf_cf _ _ n) (lpOk_of (bs := []) (by kernel_rfl) .nil) (fun _ => rfl) (fun _ _ => by kernel_rfl) (fun _ _ _ => by kernel_rfl)
theorem f41_s_l10Powers.ok : ∀ n v x, f41_s_l10Powers.F n v = some x → evalFn E n 41 (flAs f41_s_l10Powers.P (sg_lii.pk v)) = some (f41_s_l10Powers.A.enc x) :=
  fn_pure (modes := (fdAt 41).ms) (outs := (fdAt 41).os) (results := (fdAt 41).rs) f41_s_l10Powers.O (c := c41) (keep := keepAt 41) (by kernel_rfl) (fun n => orcOf_cf _ _ n) (fun n => lpOk_of (bs := [loopAt c41 0]) (by kernel_rfl) (.cons (f41_s_l10Powers.l0.ok n) .nil)) (fun _ => rfl) (fun _ _ => by kernel_rfl)
noncomputable def f41_s_l10Powers.w : FnW E := fnW 41 f41_s_l10Powers.P sg_lii f41_s_l10Powers.A f41_s_l10Powers.F f41_s_l10Powers.ok

def f40_s_l10Above.l0 (n : Nat) : Nat → Nat → List T → Nat → Nat → List T → Int → Option (Nat × List T)
  | 0, _, _, _, _, _, _ => none
  | m + 1, n1, l2, x3, n4, l5, i6 =>
    br (decide (i6 < ((n1 : Nat) : Int))) (
     gd ((decide (((0 : Int) ≤ i6) ∧ (i6 < ((n1 : Nat) : Int)))) && (okAt [(CK.flt FloatKind.f32)] l2 (Int.toNat i6))) (
     br (fge FloatKind.f32 (fAt l2 (Int.toNat i6)) x3) (
      gd ((decide (((0 : Int) ≤ i6) ∧ (i6 < ((n1 : Nat) : Int)))) && (okAt [(CK.flt FloatKind.f32)] l2 (Int.toNat i6))) (
      gd (Nat.ble (n4 + 1) 2147483648) (
      let n7 : Nat := (n4 + 1)
      let l8 : List T := (l5 ++ (setN (reps 1 [(T.flt FloatKind.f32 0)]) 0 [(T.flt FloatKind.f32 (fAt l2 (Int.toNat i6)))]))
      f40_s_l10Above.l0 n m n1 l2 x3 n7 l8 (IntKind.i64.wrap (i6 + (1 : Int)))))) (
      f40_s_l10Above.l0 n m n1 l2 x3 n4 l5 (IntKind.i64.wrap (i6 + (1 : Int)))))) (
     some (n4, l5))
def f40_s_l10Above : Nat → Nat → List T → Nat → Option (Nat × List T)
  | 0, _, _, _ => none
  | n + 1, n1, l2, x3 =>
    bd (f40_s_l10Above.l0 n n n1 l2 x3 0 (reps 0 [(T.flt FloatKind.f32 0)]) (0 : Int)) fun r4 =>
    let n5 : Nat := r4.1
    let l6 : List T := r4.2
    some (n5, l6)
def sg_lf : Sig (Nat × List T × Nat) where
  pk := fun v => [.lst v.1 v.2.1, .flt v.2.2]
  up := fun ls => match ls with
    | [.lst a0 a1, .flt a2] => some (a0, a1, a2)
    | _ => none
  ok := by
    intro ls v h
    split at h
    · cases h; rfl
    · cases h

def sg_lfli : Sig (Nat × List T × Nat × Nat × List T × Int) where
  pk := fun v => [.lst v.1 v.2.1, .flt v.2.2.1, .lst v.2.2.2.1 v.2.2.2.2.1, .int v.2.2.2.2.2]
  up := fun ls => match ls with
    | [.lst a0 a1, .flt a2, .lst a3 a4, .int a5] => some (a0, a1, a2, a3, a4, a5)
    | _ => none
  ok := by
    intro ls v h
    split at h
    · cases h; rfl
    · cases h

def f40_s_l10Above.l0.P : AS := ⟨[(0, .val false [.sl .shr [.leaf]] [.lst 0 []] [] 0), (1, .val false [.leaf] [.flt .f32 0] [] 0), (5, .val false [.sl .own [.leaf]] [.lst 0 []] [] 0), (6, .val false [.leaf] [.int .i64 0] [] 0)], 0⟩
def f40_s_l10Above.l0.A : Alt (Nat × List T) := .one (.exit 0) ⟨[(5, .val false [.sl .own [.leaf]] [.lst 0 []] [] 0)], 0⟩ sg_l
def f40_s_l10Above.l0.F (n m : Nat) (v : Nat × List T × Nat × Nat × List T × Int) := f40_s_l10Above.l0 n m v.1 v.2.1 v.2.2.1 v.2.2.2.1 v.2.2.2.2.1 v.2.2.2.2.2
def f40_s_l10Above.l0.W (n : Nat) : LpW := .of 48 f40_s_l10Above.l0.P sg_lfli f40_s_l10Above.l0.A (f40_s_l10Above.l0.F n n)
def f40_s_l10Above.P : List Arg := [⟨.val, ⟨false, [.sl .shr [.leaf]], [.lst 0 []]⟩⟩, ⟨.val, ⟨false, [.leaf], [.flt .f32 0]⟩⟩]
def f40_s_l10Above.A : RAlt (Nat × List T) := .one ⟨[⟨false, [.sl .own [.leaf]], [.lst 0 []]⟩], [none, none]⟩ sg_l
def f40_s_l10Above.F (n : Nat) (v : Nat × List T × Nat) := f40_s_l10Above n v.1 v.2.1 v.2.2
noncomputable def f40_s_l10Above.O (n : Nat) : Orc := orcOf (E := E) [] [f40_s_l10Above.l0.W n] n
theorem f40_s_l10Above.l0.ok (n : Nat) : LpOk (f40_s_l10Above.O n) E (evalFn E n) n (keepAt 40) (.loop (loopAt c40 0)) :=
  lp_pure f40_s_l10Above.l0.P sg_lfli f40_s_l10Above.l0.A (f40_s_l10Above.l0.F n) (orcOf_cf _ _ n) (lpOk_of (bs := []) (by kernel_rfl) .nil) (fun _ => rfl) (fun _ _ => by kernel_rfl) (fun _ _ _ => by kernel_rfl)
theorem f40_s_l10Above.ok : ∀ n v x, f40_s_l10Above.F n v = some x → evalFn E n 40 (flAs f40_s_l10Above.P (sg_lf.pk v)) = some (f40_s_l10Above.A.enc x) :=
  fn_pure (modes := (fdAt 40).ms) (outs := (fdAt 40).os) (results := (fdAt 40).rs) f40_s_l10Above.O (c := c40) (keep := keepAt 40) (by kernel_rfl) (fun n => orcOf_cf _ _ n) (fun n => lpOk_of (bs := [loopAt c40 0]) (by kernel_rfl) (.cons (f40_s_l10Above.l0.ok n) .nil)) (fun _ => rfl) (fun _ _ => by kernel_rfl)
noncomputable def f40_s_l10Above.w : FnW E := fnW 40 f40_s_l10Above.P sg_lf f40_s_l10Above.A f40_s_l10Above.F f40_s_l10Above.ok

def f42_s_l01Sum.l0 (n : Nat) : Nat → Nat → List T → Nat → Int → Option (Nat)
  | 0, _, _, _, _ => none
  | m + 1, n1, l2, x3, i4 =>
    br (decide (i4 < ((n1 : Nat) : Int))) (
     gd ((decide (((0 : Int) ≤ i4) ∧ (i4 < ((n1 : Nat) : Int)))) && (okAt [(CK.flt FloatKind.f32)] l2 (Int.toNat i4))) (
     let x5 : Nat := (fadd FloatKind.f32 x3 (fAt l2 (Int.toNat i4)))
     f42_s_l01Sum.l0 n m n1 l2 x5 (IntKind.i64.wrap (i4 + (1 : Int))))) (
     some x3)
def f42_s_l01Sum : Nat → Nat → List T → Option (Nat)
  | 0, _, _ => none
  | n + 1, n1, l2 =>
    bd (f42_s_l01Sum.l0 n n n1 l2 0 (0 : Int)) fun r3 =>
    let x4 : Nat := r3
    some x4
def sg_lfi : Sig (Nat × List T × Nat × Int) where
  pk := fun v => [.lst v.1 v.2.1, .flt v.2.2.1, .int v.2.2.2]
  up := fun ls => match ls with
    | [.lst a0 a1, .flt a2, .int a3] => some (a0, a1, a2, a3)
    | _ => none
  ok := by
    intro ls v h
    split at h
    · cases h; rfl
    · cases h

def f42_s_l01Sum.l0.P : AS := ⟨[(0, .val false [.sl .shr [.leaf]] [.lst 0 []] [] 0), (3, .val false [.leaf] [.flt .f32 0] [] 0), (4, .val false [.leaf] [.int .i64 0] [] 0)], 0⟩
def f42_s_l01Sum.l0.A : Alt (Nat) := .one (.exit 0) ⟨[(3, .val false [.leaf] [.flt .f32 0] [] 0)], 0⟩ sg_f
def f42_s_l01Sum.l0.F (n m : Nat) (v : Nat × List T × Nat × Int) := f42_s_l01Sum.l0 n m v.1 v.2.1 v.2.2.1 v.2.2.2
def f42_s_l01Sum.l0.W (n : Nat) : LpW := .of 48 f42_s_l01Sum.l0.P sg_lfi f42_s_l01Sum.l0.A (f42_s_l01Sum.l0.F n n)
def f42_s_l01Sum.P : List Arg := [⟨.val, ⟨false, [.sl .shr [.leaf]], [.lst 0 []]⟩⟩]
def f42_s_l01Sum.A : RAlt (Nat) := .one ⟨[⟨false, [.leaf], [.flt .f32 0]⟩], [none]⟩ sg_f
def f42_s_l01Sum.F (n : Nat) (v : Nat × List T) := f42_s_l01Sum n v.1 v.2
noncomputable def f42_s_l01Sum.O (n : Nat) : Orc := orcOf (E := E) [] [f42_s_l01Sum.l0.W n] n
theorem f42_s_l01Sum.l0.ok (n : Nat) : LpOk (f42_s_l01Sum.O n) E (evalFn E n) n (keepAt 42) (.loop (loopAt c42 0)) :=
  lp_pure f42_s_l01Sum.l0.P sg_lfi f42_s_l01Sum.l0.A (f42_s_l01Sum.l0.F n) (orcOf_cf _ _ n) (lpOk_of (bs := []) (by kernel_rfl) .nil) (fun _ => rfl) (fun _ _ => by kernel_rfl) (fun _ _ _ => by kernel_rfl)
theorem f42_s_l01Sum.ok : ∀ n v x, f42_s_l01Sum.F n v = some x → evalFn E n 42 (flAs f42_s_l01Sum.P (sg_l.pk v)) = some (f42_s_l01Sum.A.enc x) :=
  fn_pure (modes := (fdAt 42).ms) (outs := (fdAt 42).os) (results := (fdAt 42).rs) f42_s_l01Sum.O (c := c42) (keep := keepAt 42) (by kernel_rfl) (fun n => orcOf_cf _ _ n) (fun n => lpOk_of (bs := [loopAt c42 0]) (by kernel_rfl) (.cons (f42_s_l01Sum.l0.ok n) .nil)) (fun _ => rfl) (fun _ _ => by kernel_rfl)
noncomputable def f42_s_l01Sum.w : FnW E := fnW 42 f42_s_l01Sum.P sg_l f42_s_l01Sum.A f42_s_l01Sum.F f42_s_l01Sum.ok

def f12_s_LoudnessOf : Nat → Nat → List T → Int → Int → Nat → Option (Nat × Bool)
  | 0, _, _, _, _, _ => none
  | n + 1, n1, l2, i3, i4, x5 =>
    bd (f39_s_l10Windows n n1 l2 i3 i4) fun r6 =>
    let b7 : Bool := r6
    br (!b7) (
     some (0, false)) (
     bd (f41_s_l10Powers n n1 l2 i3 i4) fun r8 =>
     let n9 : Nat := r8.1
     let l10 : List T := r8.2
     bd (f40_s_l10Above n n9 l10 x5) fun r11 =>
     let n12 : Nat := r11.1
     let l13 : List T := r11.2
     br (((n12 : Nat) : Int) == (0 : Int)) (
      some (0, false)) (
      bd (f42_s_l01Sum n n12 l13) fun r14 =>
      let x15 : Nat := r14
      let x16 : Nat := (fdiv FloatKind.f32 x15 (FloatKind.nearest FloatKind.f32 ((n12 : Nat) : Int)))
      bd (f40_s_l10Above n n12 l13 (fmul FloatKind.f32 1036831949 x16)) fun r17 =>
      let n18 : Nat := r17.1
      let l19 : List T := r17.2
      br (((n18 : Nat) : Int) == (0 : Int)) (
       some (0, false)) (
       bd (f42_s_l01Sum n n18 l19) fun r20 =>
       let x21 : Nat := r20
       some ((fdiv FloatKind.f32 x21 (FloatKind.nearest FloatKind.f32 ((n18 : Nat) : Int))), true))))
def sg_liif : Sig (Nat × List T × Int × Int × Nat) where
  pk := fun v => [.lst v.1 v.2.1, .int v.2.2.1, .int v.2.2.2.1, .flt v.2.2.2.2]
  up := fun ls => match ls with
    | [.lst a0 a1, .int a2, .int a3, .flt a4] => some (a0, a1, a2, a3, a4)
    | _ => none
  ok := by
    intro ls v h
    split at h
    · cases h; rfl
    · cases h

def sg_fb : Sig (Nat × Bool) where
  pk := fun v => [.flt v.1, .bool v.2]
  up := fun ls => match ls with
    | [.flt a0, .bool a1] => some (a0, a1)
    | _ => none
  ok := by
    intro ls v h
    split at h
    · cases h; rfl
    · cases h

def f12_s_LoudnessOf.P : List Arg := [⟨.val, ⟨false, [.sl .shr [.leaf]], [.lst 0 []]⟩⟩, ⟨.val, ⟨false, [.leaf], [.int .i64 0]⟩⟩, ⟨.val, ⟨false, [.leaf], [.int .i64 0]⟩⟩, ⟨.val, ⟨false, [.leaf], [.flt .f32 0]⟩⟩]
def f12_s_LoudnessOf.A : RAlt (Nat × Bool) := .one ⟨[⟨false, [.leaf], [.flt .f32 0]⟩, ⟨false, [.leaf], [.bool false]⟩], [none, none, none, none]⟩ sg_fb
def f12_s_LoudnessOf.F (n : Nat) (v : Nat × List T × Int × Int × Nat) := f12_s_LoudnessOf n v.1 v.2.1 v.2.2.1 v.2.2.2.1 v.2.2.2.2
noncomputable def f12_s_LoudnessOf.O (n : Nat) : Orc := orcOf (E := E) [f39_s_l10Windows.w, f41_s_l10Powers.w, f40_s_l10Above.w, f42_s_l01Sum.w] [] n
theorem f12_s_LoudnessOf.ok : ∀ n v x, f12_s_LoudnessOf.F n v = some x → evalFn E n 12 (flAs f12_s_LoudnessOf.P (sg_liif.pk v)) = some (f12_s_LoudnessOf.A.enc x) :=
  fn_pure (modes := (fdAt 12).ms) (outs := (fdAt 12).os) (results := (fdAt 12).rs) f12_s_LoudnessOf.O (c := c12) (keep := keepAt 12) (by kernel_rfl) (fun n => orcOf_cf _ _ n) (fun n => lpOk_of (bs := []) (by kernel_rfl) .nil) (fun _ => rfl) (fun _ _ => by kernel_rfl)
noncomputable def f12_s_LoudnessOf.w : FnW E := fnW 12 f12_s_LoudnessOf.P sg_liif f12_s_LoudnessOf.A f12_s_LoudnessOf.F f12_s_LoudnessOf.ok

def f54_i_areSamples : Nat → Nat → List T → Option (Bool)
  | 0, _, _ => none
  | n + 1, n1, l2 =>
    some (decide (((n1 : Nat) : Int) ≤ (256 : Int)))
def f54_i_areSamples.P : List Arg := [⟨.val, ⟨false, [.sl .shr [.leaf]], [.lst 0 []]⟩⟩]
def f54_i_areSamples.A : RAlt (Bool) := .one ⟨[⟨false, [.leaf], [.bool false]⟩], [none]⟩ sg_b
def f54_i_areSamples.F (n : Nat) (v : Nat × List T) := f54_i_areSamples n v.1 v.2
noncomputable def f54_i_areSamples.O (n : Nat) : Orc := orcOf (E := E) [] [] n
theorem f54_i_areSamples.ok : ∀ n v x, f54_i_areSamples.F n v = some x → evalFn E n 54 (flAs f54_i_areSamples.P (sg_l.pk v)) = some (f54_i_areSamples.A.enc x) :=
  fn_pure (modes := (fdAt 54).ms) (outs := (fdAt 54).os) (results := (fdAt 54).rs) f54_i_areSamples.O (c := c54) (keep := keepAt 54) (by kernel_rfl) (fun n => orcOf_cf _ _ n) (fun n => lpOk_of (bs := []) (by kernel_rfl) .nil) (fun _ => rfl) (fun _ _ => by kernel_rfl)
noncomputable def f54_i_areSamples.w : FnW E := fnW 54 f54_i_areSamples.P sg_l f54_i_areSamples.A f54_i_areSamples.F f54_i_areSamples.ok

def f55_i_within : Nat → Int → Int → Int → Option (Bool)
  | 0, _, _, _ => none
  | n + 1, i1, i2, i3 =>
    br (decide (i2 ≤ i1)) (
     some (decide (i1 ≤ i3))) (
     some false)
def f55_i_within.P : List Arg := [⟨.val, ⟨false, [.leaf], [.int .i64 0]⟩⟩, ⟨.val, ⟨false, [.leaf], [.int .i64 0]⟩⟩, ⟨.val, ⟨false, [.leaf], [.int .i64 0]⟩⟩]
def f55_i_within.A : RAlt (Bool) := .one ⟨[⟨false, [.leaf], [.bool false]⟩], [none, none, none]⟩ sg_b
def f55_i_within.F (n : Nat) (v : Int × Int × Int) := f55_i_within n v.1 v.2.1 v.2.2
noncomputable def f55_i_within.O (n : Nat) : Orc := orcOf (E := E) [] [] n
theorem f55_i_within.ok : ∀ n v x, f55_i_within.F n v = some x → evalFn E n 55 (flAs f55_i_within.P (sg_iii.pk v)) = some (f55_i_within.A.enc x) :=
  fn_pure (modes := (fdAt 55).ms) (outs := (fdAt 55).os) (results := (fdAt 55).rs) f55_i_within.O (c := c55) (keep := keepAt 55) (by kernel_rfl) (fun n => orcOf_cf _ _ n) (fun n => lpOk_of (bs := []) (by kernel_rfl) .nil) (fun _ => rfl) (fun _ _ => by kernel_rfl)
noncomputable def f55_i_within.w : FnW E := fnW 55 f55_i_within.P sg_iii f55_i_within.A f55_i_within.F f55_i_within.ok

def f49_i_dot.l0 (n : Nat) : Nat → Nat → List T → Nat → List T → Nat → Int → Int → Option (Nat)
  | 0, _, _, _, _, _, _, _ => none
  | m + 1, n1, l2, n3, l4, x5, i6, i7 =>
    br (decide (i7 < i6)) (
     gd ((decide (((0 : Int) ≤ i7) ∧ (i7 < ((n1 : Nat) : Int)))) && (okAt [(CK.flt FloatKind.f32)] l2 (Int.toNat i7))) (
     gd ((decide (((0 : Int) ≤ i7) ∧ (i7 < ((n3 : Nat) : Int)))) && (okAt [(CK.flt FloatKind.f32)] l4 (Int.toNat i7))) (
     let x8 : Nat := (fadd FloatKind.f32 x5 (fmul FloatKind.f32 (fAt l2 (Int.toNat i7)) (fAt l4 (Int.toNat i7))))
     f49_i_dot.l0 n m n1 l2 n3 l4 x8 i6 (IntKind.i64.wrap (i7 + (1 : Int)))))) (
     some x5)
def f49_i_dot : Nat → Nat → List T → Nat → List T → Option (Nat)
  | 0, _, _, _, _ => none
  | n + 1, n1, l2, n3, l4 =>
    bd (f49_i_dot.l0 n n n1 l2 n3 l4 0 ((n1 : Nat) : Int) (0 : Int)) fun r5 =>
    let x6 : Nat := r5
    some x6
def sg_llfii : Sig (Nat × List T × Nat × List T × Nat × Int × Int) where
  pk := fun v => [.lst v.1 v.2.1, .lst v.2.2.1 v.2.2.2.1, .flt v.2.2.2.2.1, .int v.2.2.2.2.2.1, .int v.2.2.2.2.2.2]
  up := fun ls => match ls with
    | [.lst a0 a1, .lst a2 a3, .flt a4, .int a5, .int a6] => some (a0, a1, a2, a3, a4, a5, a6)
    | _ => none
  ok := by
    intro ls v h
    split at h
    · cases h; rfl
    · cases h

def f49_i_dot.l0.P : AS := ⟨[(0, .val false [.sl .shr [.leaf]] [.lst 0 []] [] 0), (1, .val false [.sl .shr [.leaf]] [.lst 0 []] [] 0), (5, .val false [.leaf] [.flt .f32 0] [] 0), (8, .val false [.leaf] [.int .i64 0] [] 0), (9, .val false [.leaf] [.int .i64 0] [] 0)], 0⟩
def f49_i_dot.l0.A : Alt (Nat) := .one (.exit 0) ⟨[(5, .val false [.leaf] [.flt .f32 0] [] 0)], 0⟩ sg_f
def f49_i_dot.l0.F (n m : Nat) (v : Nat × List T × Nat × List T × Nat × Int × Int) := f49_i_dot.l0 n m v.1 v.2.1 v.2.2.1 v.2.2.2.1 v.2.2.2.2.1 v.2.2.2.2.2.1 v.2.2.2.2.2.2
def f49_i_dot.l0.W (n : Nat) : LpW := .of 48 f49_i_dot.l0.P sg_llfii f49_i_dot.l0.A (f49_i_dot.l0.F n n)
def f49_i_dot.P : List Arg := [⟨.val, ⟨false, [.sl .shr [.leaf]], [.lst 0 []]⟩⟩, ⟨.val, ⟨false, [.sl .shr [.leaf]], [.lst 0 []]⟩⟩]
def f49_i_dot.A : RAlt (Nat) := .one ⟨[⟨false, [.leaf], [.flt .f32 0]⟩], [none, none]⟩ sg_f
def f49_i_dot.F (n : Nat) (v : Nat × List T × Nat × List T) := f49_i_dot n v.1 v.2.1 v.2.2.1 v.2.2.2
noncomputable def f49_i_dot.O (n : Nat) : Orc := orcOf (E := E) [] [f49_i_dot.l0.W n] n
theorem f49_i_dot.l0.ok (n : Nat) : LpOk (f49_i_dot.O n) E (evalFn E n) n (keepAt 49) (.loop (loopAt c49 0)) :=
  lp_pure f49_i_dot.l0.P sg_llfii f49_i_dot.l0.A (f49_i_dot.l0.F n) (orcOf_cf _ _ n) (lpOk_of (bs := []) (by kernel_rfl) .nil) (fun _ => rfl) (fun _ _ => by kernel_rfl) (fun _ _ _ => by kernel_rfl)
theorem f49_i_dot.ok : ∀ n v x, f49_i_dot.F n v = some x → evalFn E n 49 (flAs f49_i_dot.P (sg_ll.pk v)) = some (f49_i_dot.A.enc x) :=
  fn_pure (modes := (fdAt 49).ms) (outs := (fdAt 49).os) (results := (fdAt 49).rs) f49_i_dot.O (c := c49) (keep := keepAt 49) (by kernel_rfl) (fun n => orcOf_cf _ _ n) (fun n => lpOk_of (bs := [loopAt c49 0]) (by kernel_rfl) (.cons (f49_i_dot.l0.ok n) .nil)) (fun _ => rfl) (fun _ _ => by kernel_rfl)
noncomputable def f49_i_dot.w : FnW E := fnW 49 f49_i_dot.P sg_ll f49_i_dot.A f49_i_dot.F f49_i_dot.ok

def f43_i_WindowPowers.l0 (n : Nat) : Nat → Nat → List T → Int → Int → Nat → List T → Int → Option (Nat × List T)
  | 0, _, _, _, _, _, _, _ => none
  | m + 1, n1, l2, i3, i4, n5, l6, i7 =>
    br (decide ((IntKind.i64.wrap (i7 + i3)) ≤ ((n1 : Nat) : Int))) (
     gd (decide (((0 : Int) ≤ i7) ∧ ((i7 ≤ (IntKind.i64.wrap (i7 + i3))) ∧ ((IntKind.i64.wrap (i7 + i3)) ≤ ((n1 : Nat) : Int))))) (
     let n8 : Nat := ((Int.toNat (IntKind.i64.wrap (i7 + i3))) - (Int.toNat i7))
     let l9 : List T := (List.take ((Int.toNat (IntKind.i64.wrap (i7 + i3))) - (Int.toNat i7)) (List.drop (Int.toNat i7) l2))
     bd (f49_i_dot n n8 l9 n8 l9) fun r10 =>
     let x11 : Nat := r10
     gd (Nat.ble (n5 + 1) 2147483648) (
     let n12 : Nat := (n5 + 1)
     let l13 : List T := (l6 ++ (setN (reps 1 [(T.flt FloatKind.f32 0)]) 0 [(T.flt FloatKind.f32 (fdiv FloatKind.f32 x11 (FloatKind.nearest FloatKind.f32 i3)))]))
     f43_i_WindowPowers.l0 n m n1 l2 i3 i4 n12 l13 (IntKind.i64.wrap (i7 + i4))))) (
     some (n5, l6))
def f43_i_WindowPowers : Nat → Nat → List T → Int → Int → Option (Nat × List T × Bool)
  | 0, _, _, _, _ => none
  | n + 1, n1, l2, i3, i4 =>
    bd (f54_i_areSamples n n1 l2) fun r5 =>
    let b6 : Bool := r5
    br (!b6) (
     some (0, [], false)) (
     bd (f55_i_within n i3 (1 : Int) (256 : Int)) fun r7 =>
     let b8 : Bool := r7
     br (!b8) (
      some (0, [], false)) (
      bd (f55_i_within n i4 (1 : Int) (256 : Int)) fun r9 =>
      let b10 : Bool := r9
      br (!b10) (
       some (0, [], false)) (
       bd (f43_i_WindowPowers.l0 n n n1 l2 i3 i4 0 [] (0 : Int)) fun r11 =>
       let n12 : Nat := r11.1
       let l13 : List T := r11.2
       some (n12, l13, true))))
def sg_lb : Sig (Nat × List T × Bool) where
  pk := fun v => [.lst v.1 v.2.1, .bool v.2.2]
  up := fun ls => match ls with
    | [.lst a0 a1, .bool a2] => some (a0, a1, a2)
    | _ => none
  ok := by
    intro ls v h
    split at h
    · cases h; rfl
    · cases h

def f43_i_WindowPowers.l0.P : AS := ⟨[(0, .val false [.sl .shr [.leaf]] [.lst 0 []] [] 0), (1, .val false [.leaf] [.int .i64 0] [] 0), (2, .val false [.leaf] [.int .i64 0] [] 0), (8, .val false [.sl .own [.leaf]] [.lst 0 []] [] 0), (9, .val false [.leaf] [.int .i64 0] [] 0)], 0⟩
def f43_i_WindowPowers.l0.A : Alt (Nat × List T) := .one (.exit 0) ⟨[(8, .val false [.sl .own [.leaf]] [.lst 0 []] [] 0)], 0⟩ sg_l
def f43_i_WindowPowers.l0.F (n m : Nat) (v : Nat × List T × Int × Int × Nat × List T × Int) := f43_i_WindowPowers.l0 n m v.1 v.2.1 v.2.2.1 v.2.2.2.1 v.2.2.2.2.1 v.2.2.2.2.2.1 v.2.2.2.2.2.2
def f43_i_WindowPowers.l0.W (n : Nat) : LpW := .of 80 f43_i_WindowPowers.l0.P sg_liili f43_i_WindowPowers.l0.A (f43_i_WindowPowers.l0.F n n)
def f43_i_WindowPowers.P : List Arg := [⟨.val, ⟨false, [.sl .shr [.leaf]], [.lst 0 []]⟩⟩, ⟨.val, ⟨false, [.leaf], [.int .i64 0]⟩⟩, ⟨.val, ⟨false, [.leaf], [.int .i64 0]⟩⟩]
def f43_i_WindowPowers.A : RAlt (Nat × List T × Bool) := .one ⟨[⟨false, [.sl .own [.leaf]], [.lst 0 []]⟩, ⟨false, [.leaf], [.bool false]⟩], [none, none, none]⟩ sg_lb
def f43_i_WindowPowers.F (n : Nat) (v : Nat × List T × Int × Int) := f43_i_WindowPowers n v.1 v.2.1 v.2.2.1 v.2.2.2
noncomputable def f43_i_WindowPowers.O (n : Nat) : Orc := orcOf (E := E) [f54_i_areSamples.w, f55_i_within.w, f49_i_dot.w] [f43_i_WindowPowers.l0.W n] n
theorem f43_i_WindowPowers.l0.ok (n : Nat) : LpOk (f43_i_WindowPowers.O n) E (evalFn E n) n (keepAt 43) (.loop (loopAt c43 0)) :=
  lp_pure f43_i_WindowPowers.l0.P sg_liili f43_i_WindowPowers.l0.A (f43_i_WindowPowers.l0.F n) (orcOf_cf _ _ n) (lpOk_of (bs := []) (by kernel_rfl) .nil) (fun _ => rfl) (fun _ _ => by kernel_rfl) (fun _ _ _ => by kernel_rfl)
theorem f43_i_WindowPowers.ok : ∀ n v x, f43_i_WindowPowers.F n v = some x → evalFn E n 43 (flAs f43_i_WindowPowers.P (sg_lii.pk v)) = some (f43_i_WindowPowers.A.enc x) :=
  fn_pure (modes := (fdAt 43).ms) (outs := (fdAt 43).os) (results := (fdAt 43).rs) f43_i_WindowPowers.O (c := c43) (keep := keepAt 43) (by kernel_rfl) (fun n => orcOf_cf _ _ n) (fun n => lpOk_of (bs := [loopAt c43 0]) (by kernel_rfl) (.cons (f43_i_WindowPowers.l0.ok n) .nil)) (fun _ => rfl) (fun _ _ => by kernel_rfl)
noncomputable def f43_i_WindowPowers.w : FnW E := fnW 43 f43_i_WindowPowers.P sg_lii f43_i_WindowPowers.A f43_i_WindowPowers.F f43_i_WindowPowers.ok

def f44_i_atLeast.l0 (n : Nat) : Nat → Nat → List T → Nat → Nat → List T → Nat → List T → Int → Int → Option (Nat × List T)
  | 0, _, _, _, _, _, _, _, _, _ => none
  | m + 1, n1, l2, x3, n4, l5, n6, l7, i8, i9 =>
    br (decide (i9 < i8)) (
     gd ((decide (((0 : Int) ≤ i9) ∧ (i9 < ((n6 : Nat) : Int)))) && (okAt [(CK.flt FloatKind.f32)] l7 (Int.toNat i9))) (
     let x10 : Nat := (fAt l7 (Int.toNat i9))
     br (fge FloatKind.f32 x10 x3) (
      gd (Nat.ble (n4 + 1) 2147483648) (
      let n11 : Nat := (n4 + 1)
      let l12 : List T := (l5 ++ (setN (reps 1 [(T.flt FloatKind.f32 0)]) 0 [(T.flt FloatKind.f32 x10)]))
      f44_i_atLeast.l0 n m n1 l2 x3 n11 l12 n6 l7 i8 (IntKind.i64.wrap (i9 + (1 : Int))))) (
      f44_i_atLeast.l0 n m n1 l2 x3 n4 l5 n6 l7 i8 (IntKind.i64.wrap (i9 + (1 : Int)))))) (
     some (n4, l5))
def f77_i_sumOf.l0 (n : Nat) : Nat → Nat → List T → Nat → Nat → List T → Int → Int → Option (Nat)
  | 0, _, _, _, _, _, _, _ => none
  | m + 1, n1, l2, x3, n4, l5, i6, i7 =>
    br (decide (i7 < i6)) (
     gd ((decide (((0 : Int) ≤ i7) ∧ (i7 < ((n4 : Nat) : Int)))) && (okAt [(CK.flt FloatKind.f32)] l5 (Int.toNat i7))) (
     let x8 : Nat := (fAt l5 (Int.toNat i7))
     let x9 : Nat := (fadd FloatKind.f32 x3 x8)
     f77_i_sumOf.l0 n m n1 l2 x9 n4 l5 i6 (IntKind.i64.wrap (i7 + (1 : Int))))) (
     some x3)
def f77_i_sumOf : Nat → Nat → List T → Option (Nat)
  | 0, _, _ => none
  | n + 1, n1, l2 =>
    bd (f77_i_sumOf.l0 n n n1 l2 0 n1 l2 ((n1 : Nat) : Int) (0 : Int)) fun r3 =>
    let x4 : Nat := r3
    some x4
def sg_lflii : Sig (Nat × List T × Nat × Nat × List T × Int × Int) where
  pk := fun v => [.lst v.1 v.2.1, .flt v.2.2.1, .lst v.2.2.2.1 v.2.2.2.2.1, .int v.2.2.2.2.2.1, .int v.2.2.2.2.2.2]
  up := fun ls => match ls with
    | [.lst a0 a1, .flt a2, .lst a3 a4, .int a5, .int a6] => some (a0, a1, a2, a3, a4, a5, a6)
    | _ => none
  ok := by
    intro ls v h
    split at h
    · cases h; rfl
    · cases h

def f77_i_sumOf.l0.P : AS := ⟨[(0, .val false [.sl .shr [.leaf]] [.lst 0 []] [] 0), (3, .val false [.leaf] [.flt .f32 0] [] 0), (6, .val false [.sl .shr [.leaf]] [.lst 0 []] [] 0), (7, .val false [.leaf] [.int .i64 0] [] 0), (8, .val false [.leaf] [.int .i64 0] [] 0)], 0⟩
def f77_i_sumOf.l0.A : Alt (Nat) := .one (.exit 0) ⟨[(3, .val false [.leaf] [.flt .f32 0] [] 0)], 0⟩ sg_f
def f77_i_sumOf.l0.F (n m : Nat) (v : Nat × List T × Nat × Nat × List T × Int × Int) := f77_i_sumOf.l0 n m v.1 v.2.1 v.2.2.1 v.2.2.2.1 v.2.2.2.2.1 v.2.2.2.2.2.1 v.2.2.2.2.2.2
def f77_i_sumOf.l0.W (n : Nat) : LpW := .of 48 f77_i_sumOf.l0.P sg_lflii f77_i_sumOf.l0.A (f77_i_sumOf.l0.F n n)
def f77_i_sumOf.P : List Arg := [⟨.val, ⟨false, [.sl .shr [.leaf]], [.lst 0 []]⟩⟩]
def f77_i_sumOf.A : RAlt (Nat) := .one ⟨[⟨false, [.leaf], [.flt .f32 0]⟩], [none]⟩ sg_f
def f77_i_sumOf.F (n : Nat) (v : Nat × List T) := f77_i_sumOf n v.1 v.2
noncomputable def f77_i_sumOf.O (n : Nat) : Orc := orcOf (E := E) [] [f77_i_sumOf.l0.W n] n
theorem f77_i_sumOf.l0.ok (n : Nat) : LpOk (f77_i_sumOf.O n) E (evalFn E n) n (keepAt 77) (.loop (loopAt c77 0)) :=
  lp_pure f77_i_sumOf.l0.P sg_lflii f77_i_sumOf.l0.A (f77_i_sumOf.l0.F n) (orcOf_cf _ _ n) (lpOk_of (bs := []) (by kernel_rfl) .nil) (fun _ => rfl) (fun _ _ => by kernel_rfl) (fun _ _ _ => by kernel_rfl)
theorem f77_i_sumOf.ok : ∀ n v x, f77_i_sumOf.F n v = some x → evalFn E n 77 (flAs f77_i_sumOf.P (sg_l.pk v)) = some (f77_i_sumOf.A.enc x) :=
  fn_pure (modes := (fdAt 77).ms) (outs := (fdAt 77).os) (results := (fdAt 77).rs) f77_i_sumOf.O (c := c77) (keep := keepAt 77) (by kernel_rfl) (fun n => orcOf_cf _ _ n) (fun n => lpOk_of (bs := [loopAt c77 0]) (by kernel_rfl) (.cons (f77_i_sumOf.l0.ok n) .nil)) (fun _ => rfl) (fun _ _ => by kernel_rfl)
noncomputable def f77_i_sumOf.w : FnW E := fnW 77 f77_i_sumOf.P sg_l f77_i_sumOf.A f77_i_sumOf.F f77_i_sumOf.ok

def f44_i_atLeast : Nat → Nat → List T → Nat → Option (Nat × List T × Nat)
  | 0, _, _, _ => none
  | n + 1, n1, l2, x3 =>
    bd (f44_i_atLeast.l0 n n n1 l2 x3 0 [] n1 l2 ((n1 : Nat) : Int) (0 : Int)) fun r4 =>
    let n5 : Nat := r4.1
    let l6 : List T := r4.2
    bd (f77_i_sumOf n n5 l6) fun r7 =>
    let x8 : Nat := r7
    some (n5, l6, (fdiv FloatKind.f32 x8 (FloatKind.nearest FloatKind.f32 ((n5 : Nat) : Int))))
def sg_lfllii : Sig (Nat × List T × Nat × Nat × List T × Nat × List T × Int × Int) where
  pk := fun v => [.lst v.1 v.2.1, .flt v.2.2.1, .lst v.2.2.2.1 v.2.2.2.2.1, .lst v.2.2.2.2.2.1 v.2.2.2.2.2.2.1, .int v.2.2.2.2.2.2.2.1, .int v.2.2.2.2.2.2.2.2]
  up := fun ls => match ls with
    | [.lst a0 a1, .flt a2, .lst a3 a4, .lst a5 a6, .int a7, .int a8] => some (a0, a1, a2, a3, a4, a5, a6, a7, a8)
    | _ => none
  ok := by
    intro ls v h
    split at h
    · cases h; rfl
    · cases h

def f44_i_atLeast.l0.P : AS := ⟨[(0, .val false [.sl .shr [.leaf]] [.lst 0 []] [] 0), (1, .val false [.leaf] [.flt .f32 0] [] 0), (6, .val false [.sl .own [.leaf]] [.lst 0 []] [] 0), (9, .val false [.sl .shr [.leaf]] [.lst 0 []] [] 0), (10, .val false [.leaf] [.int .i64 0] [] 0), (11, .val false [.leaf] [.int .i64 0] [] 0)], 0⟩
def f44_i_atLeast.l0.A : Alt (Nat × List T) := .one (.exit 0) ⟨[(6, .val false [.sl .own [.leaf]] [.lst 0 []] [] 0)], 0⟩ sg_l
def f44_i_atLeast.l0.F (n m : Nat) (v : Nat × List T × Nat × Nat × List T × Nat × List T × Int × Int) := f44_i_atLeast.l0 n m v.1 v.2.1 v.2.2.1 v.2.2.2.1 v.2.2.2.2.1 v.2.2.2.2.2.1 v.2.2.2.2.2.2.1 v.2.2.2.2.2.2.2.1 v.2.2.2.2.2.2.2.2
def f44_i_atLeast.l0.W (n : Nat) : LpW := .of 48 f44_i_atLeast.l0.P sg_lfllii f44_i_atLeast.l0.A (f44_i_atLeast.l0.F n n)
def f44_i_atLeast.P : List Arg := [⟨.val, ⟨false, [.sl .shr [.leaf]], [.lst 0 []]⟩⟩, ⟨.val, ⟨false, [.leaf], [.flt .f32 0]⟩⟩]
def f44_i_atLeast.A : RAlt (Nat × List T × Nat) := .one ⟨[⟨false, [.sl .own [.leaf]], [.lst 0 []]⟩, ⟨false, [.leaf], [.flt .f32 0]⟩], [none, none]⟩ sg_lf
def f44_i_atLeast.F (n : Nat) (v : Nat × List T × Nat) := f44_i_atLeast n v.1 v.2.1 v.2.2
noncomputable def f44_i_atLeast.O (n : Nat) : Orc := orcOf (E := E) [f77_i_sumOf.w] [f44_i_atLeast.l0.W n] n
theorem f44_i_atLeast.l0.ok (n : Nat) : LpOk (f44_i_atLeast.O n) E (evalFn E n) n (keepAt 44) (.loop (loopAt c44 0)) :=
  lp_pure f44_i_atLeast.l0.P sg_lfllii f44_i_atLeast.l0.A (f44_i_atLeast.l0.F n) (orcOf_cf _ _ n) (lpOk_of (bs := []) (by kernel_rfl) .nil) (fun _ => rfl) (fun _ _ => by kernel_rfl) (fun _ _ _ => by kernel_rfl)
theorem f44_i_atLeast.ok : ∀ n v x, f44_i_atLeast.F n v = some x → evalFn E n 44 (flAs f44_i_atLeast.P (sg_lf.pk v)) = some (f44_i_atLeast.A.enc x) :=
  fn_pure (modes := (fdAt 44).ms) (outs := (fdAt 44).os) (results := (fdAt 44).rs) f44_i_atLeast.O (c := c44) (keep := keepAt 44) (by kernel_rfl) (fun n => orcOf_cf _ _ n) (fun n => lpOk_of (bs := [loopAt c44 0]) (by kernel_rfl) (.cons (f44_i_atLeast.l0.ok n) .nil)) (fun _ => rfl) (fun _ _ => by kernel_rfl)
noncomputable def f44_i_atLeast.w : FnW E := fnW 44 f44_i_atLeast.P sg_lf f44_i_atLeast.A f44_i_atLeast.F f44_i_atLeast.ok

def f14_i_LoudnessOf : Nat → Nat → List T → Int → Int → Nat → Option (Nat × Bool)
  | 0, _, _, _, _, _ => none
  | n + 1, n1, l2, i3, i4, x5 =>
    bd (f43_i_WindowPowers n n1 l2 i3 i4) fun r6 =>
    let n7 : Nat := r6.1
    let l8 : List T := r6.2.1
    let b9 : Bool := r6.2.2
    br (!b9) (
     some (0, false)) (
     bd (f44_i_atLeast n n7 l8 x5) fun r10 =>
     let n11 : Nat := r10.1
     let l12 : List T := r10.2.1
     let x13 : Nat := r10.2.2
     br (((n11 : Nat) : Int) == (0 : Int)) (
      some (0, false)) (
      bd (f44_i_atLeast n n11 l12 (fmul FloatKind.f32 1036831949 x13)) fun r14 =>
      let n15 : Nat := r14.1
      let l16 : List T := r14.2.1
      let x17 : Nat := r14.2.2
      br (((n15 : Nat) : Int) == (0 : Int)) (
       some (0, false)) (
       some (x17, true))))
def f14_i_LoudnessOf.P : List Arg := [⟨.val, ⟨false, [.sl .shr [.leaf]], [.lst 0 []]⟩⟩, ⟨.val, ⟨false, [.leaf], [.int .i64 0]⟩⟩, ⟨.val, ⟨false, [.leaf], [.int .i64 0]⟩⟩, ⟨.val, ⟨false, [.leaf], [.flt .f32 0]⟩⟩]
def f14_i_LoudnessOf.A : RAlt (Nat × Bool) := .one ⟨[⟨false, [.leaf], [.flt .f32 0]⟩, ⟨false, [.leaf], [.bool false]⟩], [none, none, none, none]⟩ sg_fb
def f14_i_LoudnessOf.F (n : Nat) (v : Nat × List T × Int × Int × Nat) := f14_i_LoudnessOf n v.1 v.2.1 v.2.2.1 v.2.2.2.1 v.2.2.2.2
noncomputable def f14_i_LoudnessOf.O (n : Nat) : Orc := orcOf (E := E) [f43_i_WindowPowers.w, f44_i_atLeast.w] [] n
theorem f14_i_LoudnessOf.ok : ∀ n v x, f14_i_LoudnessOf.F n v = some x → evalFn E n 14 (flAs f14_i_LoudnessOf.P (sg_liif.pk v)) = some (f14_i_LoudnessOf.A.enc x) :=
  fn_pure (modes := (fdAt 14).ms) (outs := (fdAt 14).os) (results := (fdAt 14).rs) f14_i_LoudnessOf.O (c := c14) (keep := keepAt 14) (by kernel_rfl) (fun n => orcOf_cf _ _ n) (fun n => lpOk_of (bs := []) (by kernel_rfl) .nil) (fun _ => rfl) (fun _ _ => by kernel_rfl)
noncomputable def f14_i_LoudnessOf.w : FnW E := fnW 14 f14_i_LoudnessOf.P sg_liif f14_i_LoudnessOf.A f14_i_LoudnessOf.F f14_i_LoudnessOf.ok

def f15_l_sameFloat : Nat → Nat → Nat → Option (Bool)
  | 0, _, _ => none
  | n + 1, x1, x2 =>
    br (fne FloatKind.f64 x1 x1) (
     br (fne FloatKind.f64 x1 x1) (
      some (fne FloatKind.f64 x2 x2)) (
      some false)) (
     br (fne FloatKind.f64 x2 x2) (
      br (fne FloatKind.f64 x1 x1) (
       some (fne FloatKind.f64 x2 x2)) (
       some false)) (
      br (feq FloatKind.f64 x1 0) (
       br (feq FloatKind.f64 x2 0) (
        some ((fgt FloatKind.f64 (fdiv FloatKind.f64 4607182418800017408 x1) 0) == (fgt FloatKind.f64 (fdiv FloatKind.f64 4607182418800017408 x2) 0))) (
        some (feq FloatKind.f64 x1 x2))) (
       some (feq FloatKind.f64 x1 x2))))
def sg_ff : Sig (Nat × Nat) where
  pk := fun v => [.flt v.1, .flt v.2]
  up := fun ls => match ls with
    | [.flt a0, .flt a1] => some (a0, a1)
    | _ => none
  ok := by
    intro ls v h
    split at h
    · cases h; rfl
    · cases h

def f15_l_sameFloat.P : List Arg := [⟨.val, ⟨false, [.leaf], [.flt .f64 0]⟩⟩, ⟨.val, ⟨false, [.leaf], [.flt .f64 0]⟩⟩]
def f15_l_sameFloat.A : RAlt (Bool) := .one ⟨[⟨false, [.leaf], [.bool false]⟩], [none, none]⟩ sg_b
def f15_l_sameFloat.F (n : Nat) (v : Nat × Nat) := f15_l_sameFloat n v.1 v.2
noncomputable def f15_l_sameFloat.O (n : Nat) : Orc := orcOf (E := E) [] [] n
theorem f15_l_sameFloat.ok : ∀ n v x, f15_l_sameFloat.F n v = some x → evalFn E n 15 (flAs f15_l_sameFloat.P (sg_ff.pk v)) = some (f15_l_sameFloat.A.enc x) :=
  fn_pure (modes := (fdAt 15).ms) (outs := (fdAt 15).os) (results := (fdAt 15).rs) f15_l_sameFloat.O (c := c15) (keep := keepAt 15) (by kernel_rfl) (fun n => orcOf_cf _ _ n) (fun n => lpOk_of (bs := []) (by kernel_rfl) .nil) (fun _ => rfl) (fun _ _ => by kernel_rfl)
noncomputable def f15_l_sameFloat.w : FnW E := fnW 15 f15_l_sameFloat.P sg_ff f15_l_sameFloat.A f15_l_sameFloat.F f15_l_sameFloat.ok

def f16_l_eqFloat32S.l0 (n : Nat) : Nat → Nat → List T → Nat → List T → Int → Option ((Bool) ⊕ (Unit))
  | 0, _, _, _, _, _ => none
  | m + 1, n1, l2, n3, l4, i5 =>
    br (decide (i5 < ((n1 : Nat) : Int))) (
     gd ((decide (((0 : Int) ≤ i5) ∧ (i5 < ((n1 : Nat) : Int)))) && (okAt [(CK.flt FloatKind.f32)] l2 (Int.toNat i5))) (
     bd ((fltToFlt FloatKind.f32 (fAt l2 (Int.toNat i5)) FloatKind.f64)) fun y6 =>
     gd ((decide (((0 : Int) ≤ i5) ∧ (i5 < ((n3 : Nat) : Int)))) && (okAt [(CK.flt FloatKind.f32)] l4 (Int.toNat i5))) (
     bd ((fltToFlt FloatKind.f32 (fAt l4 (Int.toNat i5)) FloatKind.f64)) fun y7 =>
     bd (f15_l_sameFloat n y6 y7) fun r8 =>
     let b9 : Bool := r8
     br (!b9) (
      some (Sum.inl false)) (
      f16_l_eqFloat32S.l0 n m n1 l2 n3 l4 (IntKind.i64.wrap (i5 + (1 : Int))))))) (
     some (Sum.inr ()))
def f16_l_eqFloat32S : Nat → Nat → List T → Nat → List T → Option (Bool)
  | 0, _, _, _, _ => none
  | n + 1, n1, l2, n3, l4 =>
    br (((n1 : Nat) : Int) != ((n3 : Nat) : Int)) (
     some false) (
     bd (f16_l_eqFloat32S.l0 n n n1 l2 n3 l4 (0 : Int)) fun r5 =>
     sm r5 (fun u6 =>
      let b7 : Bool := u6
      some b7) (fun u8 =>
      some true))
def sg : Sig (Unit) where
  pk := fun v => []
  up := fun ls => match ls with
    | [] => some ()
    | _ => none
  ok := by
    intro ls v h
    split at h
    · cases h; rfl
    · cases h

def f16_l_eqFloat32S.l0.P : AS := ⟨[(0, .val false [.sl .shr [.leaf]] [.lst 0 []] [] 0), (1, .val false [.sl .shr [.leaf]] [.lst 0 []] [] 0), (5, .val false [.leaf] [.int .i64 0] [] 0)], 0⟩
def f16_l_eqFloat32S.l0.A : Alt ((Bool) ⊕ (Unit)) := .or (.one .ret ⟨[(4, .val false [.leaf] [.bool false] [] 0)], 0⟩ sg_b) (.one (.exit 0) ⟨[(4, .dead)], 0⟩ sg)
def f16_l_eqFloat32S.l0.F (n m : Nat) (v : Nat × List T × Nat × List T × Int) := f16_l_eqFloat32S.l0 n m v.1 v.2.1 v.2.2.1 v.2.2.2.1 v.2.2.2.2
def f16_l_eqFloat32S.l0.W (n : Nat) : LpW := .of 64 f16_l_eqFloat32S.l0.P sg_lli f16_l_eqFloat32S.l0.A (f16_l_eqFloat32S.l0.F n n)
def f16_l_eqFloat32S.P : List Arg := [⟨.val, ⟨false, [.sl .shr [.leaf]], [.lst 0 []]⟩⟩, ⟨.val, ⟨false, [.sl .shr [.leaf]], [.lst 0 []]⟩⟩]
def f16_l_eqFloat32S.A : RAlt (Bool) := .one ⟨[⟨false, [.leaf], [.bool false]⟩], [none, none]⟩ sg_b
def f16_l_eqFloat32S.F (n : Nat) (v : Nat × List T × Nat × List T) := f16_l_eqFloat32S n v.1 v.2.1 v.2.2.1 v.2.2.2
noncomputable def f16_l_eqFloat32S.O (n : Nat) : Orc := orcOf (E := E) [f15_l_sameFloat.w] [f16_l_eqFloat32S.l0.W n] n
theorem f16_l_eqFloat32S.l0.ok (n : Nat) : LpOk (f16_l_eqFloat32S.O n) E (evalFn E n) n (keepAt 16) (.loop (loopAt c16 0)) :=
  lp_pure f16_l_eqFloat32S.l0.P sg_lli f16_l_eqFloat32S.l0.A (f16_l_eqFloat32S.l0.F n) (orcOf_cf _ _ n) (lpOk_of (bs := []) (by kernel_rfl) .nil) (fun _ => rfl) (fun _ _ => by kernel_rfl) (fun _ _ _ => by kernel_rfl)
theorem f16_l_eqFloat32S.ok : ∀ n v x, f16_l_eqFloat32S.F n v = some x → evalFn E n 16 (flAs f16_l_eqFloat32S.P (sg_ll.pk v)) = some (f16_l_eqFloat32S.A.enc x) :=
  fn_pure (modes := (fdAt 16).ms) (outs := (fdAt 16).os) (results := (fdAt 16).rs) f16_l_eqFloat32S.O (c := c16) (keep := keepAt 16) (by kernel_rfl) (fun n => orcOf_cf _ _ n) (fun n => lpOk_of (bs := [loopAt c16 0]) (by kernel_rfl) (.cons (f16_l_eqFloat32S.l0.ok n) .nil)) (fun _ => rfl) (fun _ _ => by kernel_rfl)
noncomputable def f16_l_eqFloat32S.w : FnW E := fnW 16 f16_l_eqFloat32S.P sg_ll f16_l_eqFloat32S.A f16_l_eqFloat32S.F f16_l_eqFloat32S.ok

def f4_l_FnExactLoudnessOf : Nat → Nat → List T → Int → Int → Nat → Option (Bool)
  | 0, _, _, _, _, _ => none
  | n + 1, n1, l2, i3, i4, x5 =>
    br (decide (((n1 : Nat) : Int) > (1048576 : Int))) (
     some true) (
     bd (f13_l_toFloat32S n n1 l2) fun r6 =>
     let n7 : Nat := r6.1
     let l8 : List T := r6.2
     bd (f12_s_LoudnessOf n n7 l8 i3 i4 x5) fun r9 =>
     let x10 : Nat := r9.1
     let b11 : Bool := r9.2
     bd (f13_l_toFloat32S n n1 l2) fun r12 =>
     let n13 : Nat := r12.1
     let l14 : List T := r12.2
     bd (f14_i_LoudnessOf n n13 l14 i3 i4 x5) fun r15 =>
     let x16 : Nat := r15.1
     let b17 : Bool := r15.2
     bd ((fltToFlt FloatKind.f32 x16 FloatKind.f64)) fun y18 =>
     bd ((fltToFlt FloatKind.f32 x10 FloatKind.f64)) fun y19 =>
     bd (f15_l_sameFloat n y18 y19) fun r20 =>
     let b21 : Bool := r20
     br (!b21) (
      some false) (
      br (!(b17 == b11)) (
       some false) (
       bd (f13_l_toFloat32S n n1 l2) fun r22 =>
       let n23 : Nat := r22.1
       let l24 : List T := r22.2
       bd (f16_l_eqFloat32S n n13 l14 n23 l24) fun r25 =>
       let b26 : Bool := r25
       br (!b26) (
        some false) (
        some true))))
def f4_l_FnExactLoudnessOf.P : List Arg := [⟨.val, ⟨false, [.sl .shr [.leaf]], [.lst 0 []]⟩⟩, ⟨.val, ⟨false, [.leaf], [.int .i64 0]⟩⟩, ⟨.val, ⟨false, [.leaf], [.int .i64 0]⟩⟩, ⟨.val, ⟨false, [.leaf], [.flt .f32 0]⟩⟩]
def f4_l_FnExactLoudnessOf.A : RAlt (Bool) := .one ⟨[⟨false, [.leaf], [.bool false]⟩], [none, none, none, none]⟩ sg_b
def f4_l_FnExactLoudnessOf.F (n : Nat) (v : Nat × List T × Int × Int × Nat) := f4_l_FnExactLoudnessOf n v.1 v.2.1 v.2.2.1 v.2.2.2.1 v.2.2.2.2
noncomputable def f4_l_FnExactLoudnessOf.O (n : Nat) : Orc := orcOf (E := E) [f13_l_toFloat32S.w, f12_s_LoudnessOf.w, f14_i_LoudnessOf.w, f15_l_sameFloat.w, f16_l_eqFloat32S.w] [] n
theorem f4_l_FnExactLoudnessOf.ok : ∀ n v x, f4_l_FnExactLoudnessOf.F n v = some x → evalFn E n 4 (flAs f4_l_FnExactLoudnessOf.P (sg_liif.pk v)) = some (f4_l_FnExactLoudnessOf.A.enc x) :=
  fn_pure (modes := (fdAt 4).ms) (outs := (fdAt 4).os) (results := (fdAt 4).rs) f4_l_FnExactLoudnessOf.O (c := c4) (keep := keepAt 4) (by kernel_rfl) (fun n => orcOf_cf _ _ n) (fun n => lpOk_of (bs := []) (by kernel_rfl) .nil) (fun _ => rfl) (fun _ _ => by kernel_rfl)
noncomputable def f4_l_FnExactLoudnessOf.w : FnW E := fnW 4 f4_l_FnExactLoudnessOf.P sg_liif f4_l_FnExactLoudnessOf.A f4_l_FnExactLoudnessOf.F f4_l_FnExactLoudnessOf.ok
end Go.Proofs.Ytklihgoobdbamaa.D
end
section
/- FnExactLoudnessOf, in plain Lean. -/
namespace Go.Proofs.Ytklihgoobdbamaa.D
open Go Go.Desk
set_option linter.unusedVariables false
/-- a copy in single precision -/
theorem copy_loop (n : Nat) (xs : List Nat) (hx : xs.length ≤ 1048576) : ∀ (j i m : Nat) (ys : List Nat), ys.length = xs.length → i + j = xs.length → j < m →
    f13_l_toFloat32S.l0 n m xs.length (fls .f32 xs) xs.length (fls .f32 (xs.take i ++ ys.drop i)) (i : Int) = some (xs.length, fls .f32 xs) := by
  intro j
  induction j with
  | zero =>
    intro i m ys hl hi hm
    obtain ⟨m, rfl⟩ : ∃ k, m = k + 1 := ⟨m - 1, by omega⟩
    rw [f13_l_toFloat32S.l0, nlt_dec (by omega)]
    simp only [br]
    rw [List.take_of_length_le (by omega), List.drop_eq_nil_of_le (by omega), List.append_nil]
  | succ j ih =>
    intro i m ys hl hi hm
    obtain ⟨m, rfl⟩ : ∃ k, m = k + 1 := ⟨m - 1, by omega⟩
    have hlt : i < xs.length := by omega
    rw [f13_l_toFloat32S.l0, lt_dec hlt, in_dec hlt, Int.toNat_natCast, okAt_fls hlt, wrap_succ (by omega)]
    have hlen : Nat.ble (i + 1) (fls .f32 (xs.take i ++ ys.drop i)).length = true := by
      rw [Nat.ble_eq, fls_length]; simp; omega
    rw [hlen]
    simp only [br, gd, Bool.and_self]
    rw [setN_one, fAt_fls, set_fls]
    have : xs.getD i 0 = xs[i] := by simp [List.getD, hlt]
    rw [this, take_set_drop hlt hl]
    exact ih (i + 1) m ys hl (by omega) (by omega)

theorem copied (n : Nat) (xs : List Nat) (hx : xs.length ≤ 1048576) (hn : xs.length < n) : f13_l_toFloat32S (n + 1) xs.length (fls .f32 xs) = some (xs.length, fls .f32 xs) := by
  rw [f13_l_toFloat32S]
  have h := copy_loop n xs hx xs.length 0 n (List.replicate xs.length 0) (by simp) (by omega) hn
  rw [List.take_zero, List.drop_zero, List.nil_append] at h
  have e : decide ((0 : Int) ≤ ((xs.length : Nat) : Int) ∧ ((xs.length : Nat) : Int) ≤ (2147483648 : Int)) = true := by simp; omega
  rw [reps_fls, e]
  simp only [gd]
  rw [show ((0 : Nat) : Int) = 0 from rfl] at h
  rw [h]; rfl

theorem same_self (n y : Nat) : f15_l_sameFloat (n + 1) y y = some true := by
  unfold f15_l_sameFloat
  simp only [fne_feq]
  cases h : feq FloatKind.f64 y y
  · simp [br]
  · cases h0 : feq FloatKind.f64 y 0 <;> simp [br]

/-- equal to itself -/
theorem eq_loop (n : Nat) (xs : List Nat) (hx : xs.length ≤ 2147483648) : ∀ (j i m : Nat), i + j = xs.length → j < m →
    f16_l_eqFloat32S.l0 (n + 1) m xs.length (fls .f32 xs) xs.length (fls .f32 xs) (i : Int) = some (Sum.inr ()) := by
  intro j
  induction j with
  | zero =>
    intro i m hi hm
    obtain ⟨m, rfl⟩ : ∃ k, m = k + 1 := ⟨m - 1, by omega⟩
    rw [f16_l_eqFloat32S.l0, nlt_dec (by omega)]
    rfl
  | succ j ih =>
    intro i m hi hm
    obtain ⟨m, rfl⟩ : ∃ k, m = k + 1 := ⟨m - 1, by omega⟩
    have hlt : i < xs.length := by omega
    rw [f16_l_eqFloat32S.l0, lt_dec hlt, in_dec hlt, Int.toNat_natCast, okAt_fls hlt, wrap_succ (by omega), fltToFlt_wide]
    simp only [br, gd, bd, Bool.and_self, same_self, Bool.not_true]
    exact ih (i + 1) m (by omega) (by omega)

theorem eq_self (n : Nat) (xs : List Nat) (hx : xs.length ≤ 2147483648) (hn : xs.length < n + 1) : f16_l_eqFloat32S (n + 2) xs.length (fls .f32 xs) xs.length (fls .f32 xs) = some true := by
  rw [f16_l_eqFloat32S]
  have h := eq_loop n xs hx xs.length 0 (n + 1) (by omega) hn
  rw [show ((0 : Nat) : Int) = 0 from rfl] at h
  rw [h, show (((xs.length : Nat) : Int) != ((xs.length : Nat) : Int)) = false by simp]
  rfl

/-- both dots alike -/
theorem dot_loop (n n' : Nat) (xs ys : List Nat) (hl : ys.length = xs.length) (hx : xs.length ≤ 2147483648) : ∀ (j i m m' s : Nat), i + j = xs.length → j < m → j < m' →
    ∃ r, f46_s_l01Dot.l0 n m xs.length (fls .f32 xs) ys.length (fls .f32 ys) s (i : Int) = some r ∧ f49_i_dot.l0 n' m' xs.length (fls .f32 xs) ys.length (fls .f32 ys) s (xs.length : Int) (i : Int) = some r := by
  intro j
  induction j with
  | zero =>
    intro i m m' s hi hm hm'
    obtain ⟨m, rfl⟩ : ∃ k, m = k + 1 := ⟨m - 1, by omega⟩
    obtain ⟨m', rfl⟩ : ∃ k, m' = k + 1 := ⟨m' - 1, by omega⟩
    refine ⟨s, ?_, ?_⟩
    · rw [f46_s_l01Dot.l0, nlt_dec (by omega)]; rfl
    · rw [f49_i_dot.l0, nlt_dec (by omega)]; rfl
  | succ j ih =>
    intro i m m' s hi hm hm'
    obtain ⟨m, rfl⟩ : ∃ k, m = k + 1 := ⟨m - 1, by omega⟩
    obtain ⟨m', rfl⟩ : ∃ k, m' = k + 1 := ⟨m' - 1, by omega⟩
    have hlt : i < xs.length := by omega
    have hlt' : i < ys.length := by omega
    rw [f46_s_l01Dot.l0, f49_i_dot.l0, lt_dec hlt, in_dec hlt, in_dec hlt', Int.toNat_natCast, okAt_fls hlt, okAt_fls hlt', wrap_succ (by omega)]
    simp only [gd, br, Bool.and_self]
    exact ih (i + 1) m m' _ (by omega) (by omega) (by omega)
theorem dots (n n' : Nat) (xs ys : List Nat) (hl : ys.length = xs.length) (hx : xs.length ≤ 2147483648) (hn : xs.length < n) (hn' : xs.length < n') :
    ∃ r, f46_s_l01Dot (n + 1) xs.length (fls .f32 xs) ys.length (fls .f32 ys) = some r ∧ f49_i_dot (n' + 1) xs.length (fls .f32 xs) ys.length (fls .f32 ys) = some r := by
  obtain ⟨r, h1, h2⟩ := dot_loop n n' xs ys hl hx xs.length 0 n n' 0 (by omega) hn hn'
  refine ⟨r, ?_, ?_⟩
  · rw [f46_s_l01Dot, show (0 : Int) = ((0 : Nat) : Int) from rfl, h1]; rfl
  · rw [f49_i_dot, show (0 : Int) = ((0 : Nat) : Int) from rfl, h2]; rfl

theorem s_in (n : Nat) (a b c : Int) : f52_s_l00In (n + 1) a b c = some (decide (b ≤ a ∧ a ≤ c)) := by
  rw [f52_s_l00In]
  by_cases h : b ≤ a <;> simp [br, h]
theorem i_in (n : Nat) (a b c : Int) : f55_i_within (n + 1) a b c = some (decide (b ≤ a ∧ a ≤ c)) := by
  rw [f55_i_within]
  by_cases h : b ≤ a <;> simp [br, h]

theorem s_few (n k : Nat) (l : List T) : f51_s_l01Few (n + 1) k l = some (decide ((k : Int) ≤ 256)) := by rw [f51_s_l01Few]
theorem i_few (n k : Nat) (l : List T) : f54_i_areSamples (n + 1) k l = some (decide ((k : Int) ≤ 256)) := by rw [f54_i_areSamples]

theorem take_fls (k : FloatKind) (xs : List Nat) (i : Nat) : (fls k xs).take i = fls k (xs.take i) := by simp [fls, List.map_take]
theorem drop_fls (k : FloatKind) (xs : List Nat) (i : Nat) : (fls k xs).drop i = fls k (xs.drop i) := by simp [fls, List.map_drop]
/-- both windows alike -/
theorem win_loop (n n' : Nat) (xs : List Nat) (hx : xs.length ≤ 256) (w h : Nat) (hw : 1 ≤ w ∧ w ≤ 256) (hh : 1 ≤ h ∧ h ≤ 256) (hn : xs.length < n) (hn' : xs.length < n') : ∀ (j i m m' : Nat) (acc : List Nat), acc.length ≤ i → i ≤ xs.length + h → xs.length + 1 ≤ i + j → j < m → j < m' →
    ∃ ys, ys.length ≤ xs.length + 257 ∧ f41_s_l10Powers.l0 (n + 1) m xs.length (fls .f32 xs) (w : Int) (h : Int) acc.length (fls .f32 acc) (i : Int) = some (ys.length, fls .f32 ys) ∧
      f43_i_WindowPowers.l0 (n' + 1) m' xs.length (fls .f32 xs) (w : Int) (h : Int) acc.length (fls .f32 acc) (i : Int) = some (ys.length, fls .f32 ys) := by
  intro j
  induction j with
  | zero =>
    intro i m m' acc ha hi0 hi hm hm'
    obtain ⟨m, rfl⟩ : ∃ k, m = k + 1 := ⟨m - 1, by omega⟩
    obtain ⟨m', rfl⟩ : ∃ k, m' = k + 1 := ⟨m' - 1, by omega⟩
    have e : decide (IntKind.i64.wrap ((i : Int) + (w : Int)) ≤ (xs.length : Int)) = false := by rw [wrap64] <;> first | omega | (simp; omega)
    refine ⟨acc, by omega, ?_, ?_⟩
    · rw [f41_s_l10Powers.l0, e]; rfl
    · rw [f43_i_WindowPowers.l0, e]; rfl
  | succ j ih =>
    intro i m m' acc ha hi0 hi hm hm'
    obtain ⟨m, rfl⟩ : ∃ k, m = k + 1 := ⟨m - 1, by omega⟩
    obtain ⟨m', rfl⟩ : ∃ k, m' = k + 1 := ⟨m' - 1, by omega⟩
    have e : IntKind.i64.wrap ((i : Int) + (w : Int)) = ((i + w : Nat) : Int) := by rw [wrap64] <;> omega
    rw [f41_s_l10Powers.l0, f43_i_WindowPowers.l0, e]
    by_cases hc : i + w ≤ xs.length
    case neg =>
      rw [decide_eq_false (show ¬ (((i + w : Nat) : Int) ≤ (xs.length : Int)) by omega)]
      exact ⟨acc, by omega, rfl, rfl⟩
    rw [decide_eq_true (show ((i + w : Nat) : Int) ≤ (xs.length : Int) by omega), decide_eq_true (show (0 : Int) ≤ (i : Int) ∧ (i : Int) ≤ ((i + w : Nat) : Int) ∧ ((i + w : Nat) : Int) ≤ (xs.length : Int) by omega),
      Int.toNat_natCast, Int.toNat_natCast, show IntKind.i64.wrap ((i : Int) + (h : Int)) = ((i + h : Nat) : Int) by rw [wrap64] <;> omega, le_ble (show acc.length + 1 ≤ 2147483648 by omega), show i + w - i = w by omega]
    rw [drop_fls, take_fls]
    have hl : ((xs.drop i).take w).length = w := by rw [List.length_take, List.length_drop]; omega
    obtain ⟨r, e1, e2⟩ := dots n n' ((xs.drop i).take w) ((xs.drop i).take w) rfl (by omega) (by omega) (by omega)
    rw [hl] at e1 e2
    simp only [br, gd, bd, e1, e2]
    have := ih (i + h) m m' (acc ++ [fdiv FloatKind.f32 r (FloatKind.nearest FloatKind.f32 (w : Int))]) (by simp; omega) (by omega) (by omega) (by omega) (by omega)
    simpa [fls, setN, reps] using this

/-- the windows are refused, or both make the same powers -/
theorem windows (n n' : Nat) (xs : List Nat) (a b : Int) (hn : xs.length < n) (hn' : xs.length < n') :
    (f39_s_l10Windows (n + 3) xs.length (fls .f32 xs) a b = some false ∧ f43_i_WindowPowers (n' + 3) xs.length (fls .f32 xs) a b = some (0, [], false)) ∨
    ∃ ys, ys.length ≤ xs.length + 257 ∧ ys.length ≤ 600 ∧ f39_s_l10Windows (n + 3) xs.length (fls .f32 xs) a b = some true ∧ f41_s_l10Powers (n + 3) xs.length (fls .f32 xs) a b = some (ys.length, fls .f32 ys) ∧ f43_i_WindowPowers (n' + 3) xs.length (fls .f32 xs) a b = some (ys.length, fls .f32 ys, true) := by
  rw [f39_s_l10Windows, f43_i_WindowPowers]
  simp only [s_few, i_few, s_in, i_in, bd]
  by_cases h0 : (xs.length : Int) ≤ 256
  case neg => rw [decide_eq_false h0]; exact .inl ⟨rfl, rfl⟩
  rw [decide_eq_true h0]
  by_cases h1 : 1 ≤ a ∧ a ≤ 256
  case neg => rw [decide_eq_false h1]; exact .inl ⟨rfl, rfl⟩
  rw [decide_eq_true h1]
  by_cases h2 : 1 ≤ b ∧ b ≤ 256
  case neg => rw [decide_eq_false h2]; exact .inl ⟨rfl, rfl⟩
  rw [decide_eq_true h2]
  obtain ⟨w, rfl⟩ := Int.eq_ofNat_of_zero_le (show 0 ≤ a by omega)
  obtain ⟨h, rfl⟩ := Int.eq_ofNat_of_zero_le (show 0 ≤ b by omega)
  obtain ⟨ys, hl, e1, e2⟩ := win_loop (n + 1) (n' + 1) xs (by omega) w h (by omega) (by omega) (by omega) (by omega) (xs.length + 1) 0 (n + 2) (n' + 2) [] (by simp) (by omega) (by omega) (by omega) (by omega)
  refine .inr ⟨ys, hl, by omega, rfl, ?_, ?_⟩
  · have e1 : f41_s_l10Powers.l0 (n + 2) (n + 2) xs.length (fls .f32 xs) (w : Int) (h : Int) 0 (reps 0 [(T.flt FloatKind.f32 0)]) (0 : Int) = some (ys.length, fls .f32 ys) := e1
    rw [f41_s_l10Powers, e1]; rfl
  · have e2 : f43_i_WindowPowers.l0 (n' + 2) (n' + 2) xs.length (fls .f32 xs) (w : Int) (h : Int) 0 [] (0 : Int) = some (ys.length, fls .f32 ys) := e2
    simp only [br, Bool.not_true, e2]

/-- both keep the same powers -/
theorem above_loop (n n' : Nat) (xs : List Nat) (t : Nat) (hx : xs.length ≤ 1048576) : ∀ (j i m m' : Nat) (acc : List Nat), acc.length ≤ i → i + j = xs.length → j < m → j < m' →
    ∃ ys, ys.length ≤ xs.length ∧ f40_s_l10Above.l0 n m xs.length (fls .f32 xs) t acc.length (fls .f32 acc) (i : Int) = some (ys.length, fls .f32 ys) ∧
      f44_i_atLeast.l0 n' m' xs.length (fls .f32 xs) t acc.length (fls .f32 acc) xs.length (fls .f32 xs) (xs.length : Int) (i : Int) = some (ys.length, fls .f32 ys) := by
  intro j
  induction j with
  | zero =>
    intro i m m' acc ha hi hm hm'
    obtain ⟨m, rfl⟩ : ∃ k, m = k + 1 := ⟨m - 1, by omega⟩
    obtain ⟨m', rfl⟩ : ∃ k, m' = k + 1 := ⟨m' - 1, by omega⟩
    refine ⟨acc, by omega, ?_, ?_⟩
    · rw [f40_s_l10Above.l0, nlt_dec (by omega)]; rfl
    · rw [f44_i_atLeast.l0, nlt_dec (by omega)]; rfl
  | succ j ih =>
    intro i m m' acc ha hi hm hm'
    obtain ⟨m, rfl⟩ : ∃ k, m = k + 1 := ⟨m - 1, by omega⟩
    obtain ⟨m', rfl⟩ : ∃ k, m' = k + 1 := ⟨m' - 1, by omega⟩
    have hlt : i < xs.length := by omega
    rw [f40_s_l10Above.l0, f44_i_atLeast.l0, lt_dec hlt, in_dec hlt, Int.toNat_natCast, okAt_fls hlt, wrap_succ (by omega), le_ble (show acc.length + 1 ≤ 2147483648 by omega)]
    simp only [br, gd, Bool.and_self]
    cases fge FloatKind.f32 (fAt (fls FloatKind.f32 xs) i) t
    · exact ih (i + 1) m m' acc (by omega) (by omega) (by omega) (by omega)
    · have := ih (i + 1) m m' (acc ++ [fAt (fls FloatKind.f32 xs) i]) (by simp; omega) (by omega) (by omega) (by omega)
      simpa [fls, setN, reps] using this
theorem sum_loop (n n' : Nat) (xs : List Nat) (hx : xs.length ≤ 1048576) : ∀ (j i m m' s : Nat), i + j = xs.length → j < m → j < m' →
    ∃ r, f42_s_l01Sum.l0 n m xs.length (fls .f32 xs) s (i : Int) = some r ∧ f77_i_sumOf.l0 n' m' xs.length (fls .f32 xs) s xs.length (fls .f32 xs) (xs.length : Int) (i : Int) = some r := by
  intro j
  induction j with
  | zero =>
    intro i m m' s hi hm hm'
    obtain ⟨m, rfl⟩ : ∃ k, m = k + 1 := ⟨m - 1, by omega⟩
    obtain ⟨m', rfl⟩ : ∃ k, m' = k + 1 := ⟨m' - 1, by omega⟩
    refine ⟨s, ?_, ?_⟩
    · rw [f42_s_l01Sum.l0, nlt_dec (by omega)]; rfl
    · rw [f77_i_sumOf.l0, nlt_dec (by omega)]; rfl
  | succ j ih =>
    intro i m m' s hi hm hm'
    obtain ⟨m, rfl⟩ : ∃ k, m = k + 1 := ⟨m - 1, by omega⟩
    obtain ⟨m', rfl⟩ : ∃ k, m' = k + 1 := ⟨m' - 1, by omega⟩
    have hlt : i < xs.length := by omega
    rw [f42_s_l01Sum.l0, f77_i_sumOf.l0, lt_dec hlt, in_dec hlt, Int.toNat_natCast, okAt_fls hlt, wrap_succ (by omega)]
    simp only [br, gd, Bool.and_self]
    exact ih (i + 1) m m' _ (by omega) (by omega) (by omega)
/-- both keep the same powers, and have one mean of them -/
theorem above (n n' : Nat) (xs : List Nat) (t : Nat) (hx : xs.length ≤ 1048576) (hn : xs.length < n) (hn' : xs.length < n') :
    ∃ ys r, ys.length ≤ xs.length ∧ f40_s_l10Above (n + 1) xs.length (fls .f32 xs) t = some (ys.length, fls .f32 ys) ∧ f42_s_l01Sum (n + 1) ys.length (fls .f32 ys) = some r ∧
      f44_i_atLeast (n' + 2) xs.length (fls .f32 xs) t = some (ys.length, fls .f32 ys, fdiv FloatKind.f32 r (FloatKind.nearest FloatKind.f32 ((ys.length : Nat) : Int))) := by
  obtain ⟨ys, hl, e1, e2⟩ := above_loop n (n' + 1) xs t hx xs.length 0 n (n' + 1) [] (by simp) (by omega) (by omega) (by omega)
  obtain ⟨r, e3, e4⟩ := sum_loop n n' ys (by omega) ys.length 0 n n' 0 (by omega) (by omega) (by omega)
  refine ⟨ys, r, hl, ?_, ?_, ?_⟩
  · have e1 : f40_s_l10Above.l0 n n xs.length (fls .f32 xs) t 0 (reps 0 [(T.flt FloatKind.f32 0)]) (0 : Int) = some (ys.length, fls .f32 ys) := e1
    rw [f40_s_l10Above, e1]; rfl
  · have e3 : f42_s_l01Sum.l0 n n ys.length (fls .f32 ys) 0 (0 : Int) = some r := e3
    rw [f42_s_l01Sum, e3]; rfl
  · have e2 : f44_i_atLeast.l0 (n' + 1) (n' + 1) xs.length (fls .f32 xs) t 0 [] xs.length (fls .f32 xs) (xs.length : Int) (0 : Int) = some (ys.length, fls .f32 ys) := e2
    have e4 : f77_i_sumOf.l0 n' n' ys.length (fls .f32 ys) 0 ys.length (fls .f32 ys) (ys.length : Int) (0 : Int) = some r := e4
    rw [f44_i_atLeast, e2]
    simp only [bd]
    rw [f77_i_sumOf, e4]
    rfl

theorem both (n n' : Nat) (xs : List Nat) (a b : Int) (x : Nat) (hn : xs.length + 300 < n) (hn' : xs.length + 300 < n') (hx : xs.length ≤ 1048576 - 300) :
    ∃ r, f12_s_LoudnessOf (n + 4) xs.length (fls .f32 xs) a b x = some r ∧ f14_i_LoudnessOf (n' + 4) xs.length (fls .f32 xs) a b x = some r := by
  rw [f12_s_LoudnessOf, f14_i_LoudnessOf]
  rcases windows n n' xs a b (by omega) (by omega) with ⟨h1, h2⟩ | ⟨ys, hl, -, h1, h2, h3⟩
  · rw [h1, h2]; exact ⟨_, rfl, rfl⟩
  · rw [h1, h3]
    simp only [bd, br, Bool.not_true, h2]
    obtain ⟨zs, r, hz, e1, e2, e3⟩ := above (n + 2) (n' + 1) ys x (by omega) (by omega) (by omega)
    rw [e1, e3]
    simp only
    cases hz0 : (((zs.length : Nat) : Int) == (0 : Int))
    · simp only [e2]
      obtain ⟨us, q, hu, k1, k2, k3⟩ := above (n + 2) (n' + 1) zs (fmul FloatKind.f32 1036831949 (fdiv FloatKind.f32 r (FloatKind.nearest FloatKind.f32 ((zs.length : Nat) : Int)))) (by omega) (by omega) (by omega)
      rw [k1, k3]
      simp only
      cases hu0 : (((us.length : Nat) : Int) == (0 : Int))
      · simp only [k2]; exact ⟨_, rfl, rfl⟩
      · exact ⟨_, rfl, rfl⟩
    · exact ⟨_, rfl, rfl⟩

/-- too many samples: both refuse -/
theorem many (n n' : Nat) (xs : List Nat) (a b : Int) (x : Nat) (hx : 256 < xs.length) :
    ∃ r, f12_s_LoudnessOf (n + 4) xs.length (fls .f32 xs) a b x = some r ∧ f14_i_LoudnessOf (n' + 4) xs.length (fls .f32 xs) a b x = some r := by
  rw [f12_s_LoudnessOf, f14_i_LoudnessOf, f39_s_l10Windows, f43_i_WindowPowers]
  simp only [s_few, i_few, bd]
  rw [decide_eq_false (show ¬ ((xs.length : Int) ≤ 256) by omega)]
  exact ⟨_, rfl, rfl⟩

theorem exact_ (xs : List Nat) (hg : ∀ x ∈ xs, GoodF .f32 x) (hl : xs.length ≤ maxLen) (a : Int) (ha : GoodI .i64 a) (b : Int) (hb : GoodI .i64 b) (x : Nat) (hx0 : GoodF .f32 x) : ∃ n, f4_l_FnExactLoudnessOf n xs.length (fls .f32 xs) a b x = some true := by
  refine ⟨xs.length + 600, ?_⟩
  rw [f4_l_FnExactLoudnessOf]
  cases h : decide (((xs.length : Nat) : Int) > (1048576 : Int))
  · have hx : xs.length ≤ 1048576 := by simp at h; omega
    have hb : ∃ r, f12_s_LoudnessOf (xs.length + 595 + 4) xs.length (fls .f32 xs) a b x = some r ∧ f14_i_LoudnessOf (xs.length + 595 + 4) xs.length (fls .f32 xs) a b x = some r := by
      rcases Nat.lt_or_ge 256 xs.length with h' | h'
      · exact many _ _ xs a b x h'
      · exact both _ _ xs a b x (by omega) (by omega) (by omega)
    obtain ⟨⟨y, c⟩, h1, h2⟩ := hb
    simp only [br, copied (xs.length + 598) xs hx (by omega), bd, h1, h2, fltToFlt_wide, same_self, beq_self_eq_true, Bool.not_true, eq_self (xs.length + 597) xs (by omega) (by omega)]
  · rfl
theorem law4 : ∀ args, LawArgs E Try.f4.params.toList args → ∃ N os, evalFn E N 4 args = some ⟨[⟨false, [.leaf], [.bool true]⟩], os⟩ := by
  intro args h0
  have hp : Try.f4.params.toList = [26, 2, 2, 22] := by kernel_rfl
  rw [hp] at h0
  obtain ⟨ts0, r0, rfl, hw0, h1⟩ := h0.cons_inv (d := ⟨false, 1, 24, [.sl .own [.leaf]], [.lst 0 []], .slc 22⟩) (by kernel_rfl)
  obtain ⟨n0, cs0, rfl, gl0, hs0⟩ := hw0.slc_inv (e := 22) (d := ⟨false, 1, 24, [.sl .own [.leaf]], [.lst 0 []], .slc 22⟩) (by kernel_rfl) rfl
  obtain ⟨a0, rfl, rfl, g0⟩ := hs0.flts (k := .f32) (d := ⟨false, 1, 4, [.leaf], [.flt .f32 0], .flt .f32⟩) (by kernel_rfl) rfl
  obtain ⟨ts1, r1, rfl, hw1, h2⟩ := h1.cons_inv (d := ⟨false, 1, 8, [.leaf], [.int .i64 0], .int .i64⟩) (by kernel_rfl)
  obtain ⟨a1, rfl, g1⟩ := hw1.int_inv (k := .i64) (d := ⟨false, 1, 8, [.leaf], [.int .i64 0], .int .i64⟩) (by kernel_rfl) rfl
  obtain ⟨ts2, r2, rfl, hw2, h3⟩ := h2.cons_inv (d := ⟨false, 1, 8, [.leaf], [.int .i64 0], .int .i64⟩) (by kernel_rfl)
  obtain ⟨a2, rfl, g2⟩ := hw2.int_inv (k := .i64) (d := ⟨false, 1, 8, [.leaf], [.int .i64 0], .int .i64⟩) (by kernel_rfl) rfl
  obtain ⟨ts3, r3, rfl, hw3, h4⟩ := h3.cons_inv (d := ⟨false, 1, 4, [.leaf], [.flt .f32 0], .flt .f32⟩) (by kernel_rfl)
  obtain ⟨a3, rfl, g3⟩ := hw3.flt_inv (k := .f32) (d := ⟨false, 1, 4, [.leaf], [.flt .f32 0], .flt .f32⟩) (by kernel_rfl) rfl
  obtain rfl := h4.nil_inv
  obtain ⟨N, hN⟩ := exact_ a0 g0 gl0 a1 g1 a2 g2 a3 g3
  exact ⟨N, _, f4_l_FnExactLoudnessOf.ok N (a0.length, fls .f32 a0, a1, a2, a3) true hN⟩


end Go.Proofs.Ytklihgoobdbamaa.D
end
section
/- FnExactLoudnessOf holds: for every input the law returns true, and its arguments read as before. -/
namespace Go.Proofs.Ytklihgoobdbamaa.fnExactLoudnessOf
open Go Go.ChangeShapes Go.WideShapes Go.ChangeAt Go.RowKit Go.Desk
set_option linter.unusedVariables false
theorem own : ownKnob Try.prog.godebug = none := by kernel_rfl
theorem laidOut : laidOutB Try.prog = true := by kernel_rfl
set_option maxRecDepth 100000 in
theorem lifted (os : Os) (started : os.Started) (H : Type) (enc : TypeId × Value → H) :
    ReturnsInHanded {} Try.checked os 4 .any (Rows.fnExactLoudnessOfSpec.pre6 enc Try.prog Try.f4 Rows.fnExactLoudnessOfRow.domain false) (Rows.fnExactLoudnessOfSpec.post enc Try.prog Try.f4 false true false false) := by
  refine returnsInHanded_of_change (C := Try.checked) own started (by kernel_rfl) Try.func4
    (ChangeSpec.witness6 (enc := enc) (C := Try.checked) false ⟨#[], #[.slice none 0 0, .int .i64 0, .int .i64 0, .float .f32 0], []⟩ 8 (by kernel_rfl) (by kernel_rfl) (by kernel_rfl) (by kernel_rfl)) ?_
  intro W base args ds gs before hval hW hcnd _
  exact law_contract (c := D.c4) Try.checked.mixed D.tysOk D.fnOk Try.func4 (by kernel_rfl) (by kernel_rfl) (by kernel_rfl) Try.underlying4 rfl
    (fun ds h => by
      rw [show Try.f4.params.toList.length = 4 by kernel_rfl] at h
      match ds, h with
      | [_, _, _, _], _ => rfl)
    laidOut (N := 8) (by kernel_rfl) (by kernel_rfl) D.law4 hval hW
theorem over : Rows.fnExactLoudnessOfRow.holds Try.pinned (OpenSpec.ofChange Rows.fnExactLoudnessOfSpec) :=
  OpenClaim.holds_of_wide 4 Try.f4 rfl rfl rfl rfl rfl rfl rfl ⟨rfl, rfl, rfl, rfl, rfl⟩ rfl rfl rfl rfl rfl (by kernel_rfl) Try.func4 (by kernel_rfl)
    (of_decide_eq_true (by kernel_rfl)) (by unfold Func.isWrapper; first | (rw [if_pos (by decide +kernel)]; kernel_rfl) | (rw [if_neg (by decide +kernel)]; exact ⟨rfl, rfl⟩))
    (fun os started H enc _ => lifted os started H enc)
theorem proved : Rows.FnExactLoudnessOfSaid := over
#print axioms proved
end Go.Proofs.Ytklihgoobdbamaa.fnExactLoudnessOf
namespace Go.Proofs.Ytklihgoobdbamaa
/-- The row, under a short name, for the claim. -/
theorem fnExactLoudnessOf_holds : Rows.FnExactLoudnessOfSaid := fnExactLoudnessOf.proved
end Go.Proofs.Ytklihgoobdbamaa
end
