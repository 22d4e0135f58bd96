/- FnExactWindowPowers holds: for every input the law returns true, and its arguments read as before. -/
import Derived.Test.YtcadjmbpmbdliaaChecked
import Derived.Test.YtcadjmbpmbdliaaDeskD
import Derived.KernelRfl
import Derived.Test.YtcadjmbpmbdliaaRows
import Derived.WalkKit
import Derived.ProofKit
import Derived.OpenShut
import Derived.ShutString
import Derived.ChangeOld
import Derived.Below
import Derived.SizedLaws
set_option linter.all false
section
/- The tables of the reading: types and functions of the translation, with what is kept at each region's beginning (written by a program of this workplace). -/
namespace Go.Proofs.Ytcadjmbpmbdliaa.D
open Go Go.Desk
def bodyOf (f : Func) : Code := match f.body with
  | some c => c
  | none => .skip
def tyTab : List (Nat × TD) := [
  (2, ⟨false, 1, 8, [.leaf], [.int .i64 0], .int .i64⟩),
  (3, ⟨false, 1, 8, [.leaf], [.int .i64 0], .int .i64⟩),
  (4, ⟨false, 1, 1, [.leaf], [.bool false], .bool⟩),
  (22, ⟨false, 1, 24, [.sl .own [.leaf]], [.lst 0 []], .slc 28⟩),
  (28, ⟨false, 1, 4, [.leaf], [.flt .f32 0], .flt .f32⟩),
  (32, ⟨false, 1, 8, [.leaf], [.flt .f64 0], .flt .f64⟩)]
noncomputable def c6 : Code := bodyOf Try.f6
noncomputable def c10 : Code := bodyOf Try.f10
noncomputable def c12 : Code := bodyOf Try.f12
noncomputable def c15 : Code := bodyOf Try.f15
noncomputable def c23 : Code := bodyOf Try.f23
noncomputable def c24 : Code := bodyOf Try.f24
noncomputable def c25 : Code := bodyOf Try.f25
noncomputable def c26 : Code := bodyOf Try.f26
noncomputable def c34 : Code := bodyOf Try.f34
noncomputable def c35 : Code := bodyOf Try.f35
noncomputable def c36 : Code := bodyOf Try.f36
noncomputable def c39 : Code := bodyOf Try.f39
noncomputable def c50 : Code := bodyOf Try.f50
noncomputable def c51 : Code := bodyOf Try.f51
noncomputable def c52 : Code := bodyOf Try.f52
noncomputable def c53 : Code := bodyOf Try.f53
noncomputable def fnTab : List (Nat × FD) := [
  (6, .code c6 [.val, .val, .val] [] [(6, none)] [(0, [0, 1, 2]), (1, [0, 1, 2]), (2, []), (3, [0, 1, 2]), (4, [0, 1, 2, 7, 8]), (5, [0, 1, 2, 7, 8, 9]), (6, [0, 1, 2, 7, 8, 9, 10, 11]), (7, []), (8, [0, 1, 2, 7, 8, 9, 10, 11]), (9, []), (10, [0, 1, 2, 7, 8, 9, 10, 11]), (11, [0, 1, 2, 7, 8, 9, 10, 11, 12]), (12, [0, 1, 2, 7, 8, 10, 11, 12]), (13, []), (14, [0, 1, 2, 7, 8, 10]), (15, [0, 1, 2, 7, 8, 10, 13]), (16, [0, 1, 2, 7, 8, 10, 13]), (17, [0, 1, 2, 7, 8, 10, 13, 14]), (18, [0, 1, 2, 7, 8, 10, 13, 14]), (19, []), (20, [0, 1, 2, 7, 8, 10, 13, 14]), (21, []), (22, [0, 1, 2, 7, 8, 10, 13]), (23, [7, 8, 10, 13, 15, 16]), (24, []), (25, [10, 13]), (26, [10, 13, 14]), (27, [13, 14]), (28, []), (29, [13, 14]), (30, []), (31, [])]),
  (10, .code c10 [.val] [] [(2, none)] [(0, [0]), (1, [0]), (2, [0, 3]), (3, [0, 3, 4]), (4, [0, 3, 4]), (5, [0, 3, 4]), (6, [3]), (1000003, [3])]),
  (12, .code c12 [.val, .val] [] [(4, none)] [(0, [0, 1]), (1, [0, 1]), (2, []), (3, [0, 1]), (4, [0, 1, 5]), (5, [0, 1, 5]), (6, [0, 1, 5]), (7, []), (8, []), (1000004, [4])]),
  (15, .code c15 [.val, .val] [] [(4, none)] [(0, [0, 1]), (1, [0, 1]), (2, [0, 1]), (3, [0, 1]), (4, [0, 1]), (5, [0, 1])]),
  (23, .code c23 [.val, .val, .val] [] [(6, none), (7, none)] [(0, [0, 1, 2]), (1, [0, 1, 2]), (2, []), (3, [0, 1, 2])]),
  (24, .code c24 [.val, .val, .val] [] [(6, none), (7, none)] [(0, [0, 1, 2]), (1, [0, 1, 2]), (2, []), (3, [0, 1, 2]), (4, [0, 1, 2, 8]), (5, [0, 1, 2, 8, 9]), (6, [0, 1, 2, 8, 9]), (7, [0, 1, 2, 8, 9]), (8, [0, 1, 2, 8, 9, 10]), (9, [8]), (1000005, [8])]),
  (25, .code c25 [.io, .val] [0] [(4, none)] [(0, [0, 1]), (1, [0, 1]), (2, [0, 1, 5]), (3, [0, 1, 5]), (4, [0, 1, 5]), (5, [0, 1, 5]), (6, [0, 1]), (1000002, [0, 1])]),
  (26, .code c26 [.val, .val] [] [(4, none)] [(0, [0, 1]), (1, [0, 1]), (2, [0, 1, 5]), (3, [0, 1, 5]), (4, [0, 1, 5]), (5, []), (6, [0, 1, 5]), (7, [1]), (1000002, [1, 4])]),
  (34, .code c34 [.val] [] [(2, none)] [(0, [0]), (1, [0])]),
  (35, .code c35 [.val] [] [(2, none)] [(0, [0]), (1, [0])]),
  (36, .code c36 [.val, .val, .val] [] [(6, none)] [(0, [0, 1, 2]), (1, [0, 1, 2])]),
  (39, .code c39 [.val, .val, .val] [] [(6, none)] [(0, [0, 1, 2]), (1, [0, 1, 2])]),
  (50, .code c50 [.val, .val, .val] [] [(6, none)] [(0, [0, 1, 2]), (1, [0, 1, 2])]),
  (51, .code c51 [.val, .val, .val] [] [(6, none)] [(0, [0, 1, 2]), (1, [0, 1, 2]), (2, [0, 1, 2, 7]), (3, [0, 1, 2, 7, 8]), (4, [0, 1, 2, 7, 8]), (5, [0, 1, 2, 7, 8]), (6, [0, 1, 2, 7, 8, 9]), (7, [7]), (1000003, [7])]),
  (52, .code c52 [.val, .val] [] [(4, none)] [(0, [0, 1]), (1, [0, 1]), (2, [0, 1, 5]), (3, [0, 1, 5, 8, 9]), (4, [0, 1, 5, 8, 9]), (5, [0, 1, 5, 6, 8, 9]), (6, [0, 1, 5, 8, 9]), (7, [5]), (1000003, [5])]),
  (53, .code c53 [.val, .val] [] [(4, none)] [(0, [0, 1]), (1, [0, 1]), (2, [0, 1, 5]), (3, [0, 1, 5, 6]), (4, [0, 1, 5, 6]), (5, [0, 1, 5, 6]), (6, [5]), (1000003, [5])])]
noncomputable def E : Env := ⟨fun t => lookT tyTab t, lookF fnTab⟩
noncomputable def fdAt (n : Nat) : FD := match lookF fnTab n with
  | some d => d
  | none => .ext fun _ => none
noncomputable def keepAt (n : Nat) : List (Nat × List Nat) := match lookF fnTab n with
  | some d => d.keep
  | none => []
theorem tysOk : TysOk Try.prog E := tysOk_of (l := tyTab) (fun _ => rfl) (by kernel_rfl)
theorem ft6 : FnTab Try.prog E 6 (fdAt 6) := fnTab_code (c := c6) (modes := (fdAt 6).ms) (outs := (fdAt 6).os) (results := (fdAt 6).rs) (keep := (fdAt 6).keep) Try.func6 (by kernel_rfl) (by kernel_rfl) (by kernel_rfl)
theorem ft10 : FnTab Try.prog E 10 (fdAt 10) := fnTab_code (c := c10) (modes := (fdAt 10).ms) (outs := (fdAt 10).os) (results := (fdAt 10).rs) (keep := (fdAt 10).keep) Try.func10 (by kernel_rfl) (by kernel_rfl) (by kernel_rfl)
theorem ft12 : FnTab Try.prog E 12 (fdAt 12) := fnTab_code (c := c12) (modes := (fdAt 12).ms) (outs := (fdAt 12).os) (results := (fdAt 12).rs) (keep := (fdAt 12).keep) Try.func12 (by kernel_rfl) (by kernel_rfl) (by kernel_rfl)
theorem ft15 : FnTab Try.prog E 15 (fdAt 15) := fnTab_code (c := c15) (modes := (fdAt 15).ms) (outs := (fdAt 15).os) (results := (fdAt 15).rs) (keep := (fdAt 15).keep) Try.func15 (by kernel_rfl) (by kernel_rfl) (by kernel_rfl)
theorem ft23 : FnTab Try.prog E 23 (fdAt 23) := fnTab_code (c := c23) (modes := (fdAt 23).ms) (outs := (fdAt 23).os) (results := (fdAt 23).rs) (keep := (fdAt 23).keep) Try.func23 (by kernel_rfl) (by kernel_rfl) (by kernel_rfl)
theorem ft24 : FnTab Try.prog E 24 (fdAt 24) := fnTab_code (c := c24) (modes := (fdAt 24).ms) (outs := (fdAt 24).os) (results := (fdAt 24).rs) (keep := (fdAt 24).keep) Try.func24 (by kernel_rfl) (by kernel_rfl) (by kernel_rfl)
theorem ft25 : FnTab Try.prog E 25 (fdAt 25) := fnTab_code (c := c25) (modes := (fdAt 25).ms) (outs := (fdAt 25).os) (results := (fdAt 25).rs) (keep := (fdAt 25).keep) Try.func25 (by kernel_rfl) (by kernel_rfl) (by kernel_rfl)
theorem ft26 : FnTab Try.prog E 26 (fdAt 26) := fnTab_code (c := c26) (modes := (fdAt 26).ms) (outs := (fdAt 26).os) (results := (fdAt 26).rs) (keep := (fdAt 26).keep) Try.func26 (by kernel_rfl) (by kernel_rfl) (by kernel_rfl)
theorem ft34 : FnTab Try.prog E 34 (fdAt 34) := fnTab_code (c := c34) (modes := (fdAt 34).ms) (outs := (fdAt 34).os) (results := (fdAt 34).rs) (keep := (fdAt 34).keep) Try.func34 (by kernel_rfl) (by kernel_rfl) (by kernel_rfl)
theorem ft35 : FnTab Try.prog E 35 (fdAt 35) := fnTab_code (c := c35) (modes := (fdAt 35).ms) (outs := (fdAt 35).os) (results := (fdAt 35).rs) (keep := (fdAt 35).keep) Try.func35 (by kernel_rfl) (by kernel_rfl) (by kernel_rfl)
theorem ft36 : FnTab Try.prog E 36 (fdAt 36) := fnTab_code (c := c36) (modes := (fdAt 36).ms) (outs := (fdAt 36).os) (results := (fdAt 36).rs) (keep := (fdAt 36).keep) Try.func36 (by kernel_rfl) (by kernel_rfl) (by kernel_rfl)
theorem ft39 : FnTab Try.prog E 39 (fdAt 39) := fnTab_code (c := c39) (modes := (fdAt 39).ms) (outs := (fdAt 39).os) (results := (fdAt 39).rs) (keep := (fdAt 39).keep) Try.func39 (by kernel_rfl) (by kernel_rfl) (by kernel_rfl)
theorem ft50 : FnTab Try.prog E 50 (fdAt 50) := fnTab_code (c := c50) (modes := (fdAt 50).ms) (outs := (fdAt 50).os) (results := (fdAt 50).rs) (keep := (fdAt 50).keep) Try.func50 (by kernel_rfl) (by kernel_rfl) (by kernel_rfl)
theorem ft51 : FnTab Try.prog E 51 (fdAt 51) := fnTab_code (c := c51) (modes := (fdAt 51).ms) (outs := (fdAt 51).os) (results := (fdAt 51).rs) (keep := (fdAt 51).keep) Try.func51 (by kernel_rfl) (by kernel_rfl) (by kernel_rfl)
theorem ft52 : FnTab Try.prog E 52 (fdAt 52) := fnTab_code (c := c52) (modes := (fdAt 52).ms) (outs := (fdAt 52).os) (results := (fdAt 52).rs) (keep := (fdAt 52).keep) Try.func52 (by kernel_rfl) (by kernel_rfl) (by kernel_rfl)
theorem ft53 : FnTab Try.prog E 53 (fdAt 53) := fnTab_code (c := c53) (modes := (fdAt 53).ms) (outs := (fdAt 53).os) (results := (fdAt 53).rs) (keep := (fdAt 53).keep) Try.func53 (by kernel_rfl) (by kernel_rfl) (by kernel_rfl)
theorem allFns : AllFns Try.prog E fnTab := .cons ft6 (.cons ft10 (.cons ft12 (.cons ft15 (.cons ft23 (.cons ft24 (.cons ft25 (.cons ft26 (.cons ft34 (.cons ft35 (.cons ft36 (.cons ft39 (.cons ft50 (.cons ft51 (.cons ft52 (.cons ft53 (.nil))))))))))))))))
theorem fnOk : ∀ f fd, E.fn f = some fd → FnTab Try.prog E f fd := fnTab_of (l := fnTab) (fun _ => rfl) allFns
end Go.Proofs.Ytcadjmbpmbdliaa.D
end
section
/- Plain functions for the law's Go functions, each tied to the reading by the kernel (printed by a program of this workplace). -/
namespace Go.Proofs.Ytcadjmbpmbdliaa.D
open Go Go.Desk
set_option linter.unusedVariables false
def f10_l_toFloat32S.l0 (n : Nat) : Nat → Nat → List T → Nat → List T → Int → Option (Nat × List T)
  | 0, _, _, _, _, _ => none
  | m + 1, n1, l2, n3, l4, i5 =>
    br (decide (i5 < ((n1 : Nat) : Int))) (
     gd ((decide (((0 : Int) ≤ i5) ∧ (i5 < ((n1 : Nat) : Int)))) && (okAt [(CK.flt FloatKind.f32)] l2 (Int.toNat i5))) (
     gd (decide (((0 : Int) ≤ i5) ∧ (i5 < ((n3 : Nat) : Int)))) (
     gd (Nat.ble ((Int.toNat i5) + 1) (List.length l4)) (
     let l6 : List T := (setN l4 (Int.toNat i5) [(T.flt FloatKind.f32 (fAt l2 (Int.toNat i5)))])
     f10_l_toFloat32S.l0 n m n1 l2 n3 l6 (IntKind.i64.wrap (i5 + (1 : Int))))))) (
     some (n3, l4))
def f10_l_toFloat32S : Nat → Nat → List T → Option (Nat × List T)
  | 0, _, _ => none
  | n + 1, n1, l2 =>
    gd (decide (((0 : Int) ≤ ((n1 : Nat) : Int)) ∧ (((n1 : Nat) : Int) ≤ (2147483648 : Int)))) (
    let l3 : List T := (reps n1 [(T.flt FloatKind.f32 0)])
    bd (f10_l_toFloat32S.l0 n n n1 l2 n1 l3 (0 : Int)) fun r4 =>
    let n5 : Nat := r4.1
    let l6 : List T := r4.2
    some (n5, l6))
def sg_l : Sig (Nat × List T) where
  pk := fun v => [.lst v.1 v.2]
  up := fun ls => match ls with
    | [.lst a0 a1] => some (a0, a1)
    | _ => none
  ok := by
    intro ls v h
    split at h
    · cases h; rfl
    · cases h

def sg_lli : Sig (Nat × List T × Nat × List T × Int) where
  pk := fun v => [.lst v.1 v.2.1, .lst v.2.2.1 v.2.2.2.1, .int v.2.2.2.2]
  up := fun ls => match ls with
    | [.lst a0 a1, .lst a2 a3, .int a4] => some (a0, a1, a2, a3, a4)
    | _ => none
  ok := by
    intro ls v h
    split at h
    · cases h; rfl
    · cases h

def f10_l_toFloat32S.l0.P : AS := ⟨[(0, .val false [.sl .shr [.leaf]] [.lst 0 []] [] 0), (3, .val false [.sl .own [.leaf]] [.lst 0 []] [] 0), (4, .val false [.leaf] [.int .i64 0] [] 0)], 0⟩
def f10_l_toFloat32S.l0.A : Alt (Nat × List T) := .one (.exit 0) ⟨[(3, .val false [.sl .own [.leaf]] [.lst 0 []] [] 0)], 0⟩ sg_l
def f10_l_toFloat32S.l0.F (n m : Nat) (v : Nat × List T × Nat × List T × Int) := f10_l_toFloat32S.l0 n m v.1 v.2.1 v.2.2.1 v.2.2.2.1 v.2.2.2.2
def f10_l_toFloat32S.l0.W (n : Nat) : LpW := .of 48 f10_l_toFloat32S.l0.P sg_lli f10_l_toFloat32S.l0.A (f10_l_toFloat32S.l0.F n n)
def f10_l_toFloat32S.P : List Arg := [⟨.val, ⟨false, [.sl .shr [.leaf]], [.lst 0 []]⟩⟩]
def f10_l_toFloat32S.A : RAlt (Nat × List T) := .one ⟨[⟨false, [.sl .own [.leaf]], [.lst 0 []]⟩], [none]⟩ sg_l
def f10_l_toFloat32S.F (n : Nat) (v : Nat × List T) := f10_l_toFloat32S n v.1 v.2
noncomputable def f10_l_toFloat32S.O (n : Nat) : Orc := orcOf (E := E) [] [f10_l_toFloat32S.l0.W n] n
theorem f10_l_toFloat32S.l0.ok (n : Nat) : LpOk (f10_l_toFloat32S.O n) E (evalFn E n) n (keepAt 10) (.loop (loopAt c10 0)) :=
  lp_pure f10_l_toFloat32S.l0.P sg_lli f10_l_toFloat32S.l0.A (f10_l_toFloat32S.l0.F n) (orcOf_cf _ _ n) (lpOk_of (bs := []) (by kernel_rfl) .nil) (fun _ => rfl) (fun _ _ => by kernel_rfl) (fun _ _ _ => by kernel_rfl)
theorem f10_l_toFloat32S.ok : ∀ n v x, f10_l_toFloat32S.F n v = some x → evalFn E n 10 (flAs f10_l_toFloat32S.P (sg_l.pk v)) = some (f10_l_toFloat32S.A.enc x) :=
  fn_pure (modes := (fdAt 10).ms) (outs := (fdAt 10).os) (results := (fdAt 10).rs) f10_l_toFloat32S.O (c := c10) (keep := keepAt 10) (by kernel_rfl) (fun n => orcOf_cf _ _ n) (fun n => lpOk_of (bs := [loopAt c10 0]) (by kernel_rfl) (.cons (f10_l_toFloat32S.l0.ok n) .nil)) (fun _ => rfl) (fun _ _ => by kernel_rfl)
noncomputable def f10_l_toFloat32S.w : FnW E := fnW 10 f10_l_toFloat32S.P sg_l f10_l_toFloat32S.A f10_l_toFloat32S.F f10_l_toFloat32S.ok

def f34_s_l01Few : Nat → Nat → List T → Option (Bool)
  | 0, _, _ => none
  | n + 1, n1, l2 =>
    some (decide (((n1 : Nat) : Int) ≤ (256 : Int)))
def sg_b : Sig (Bool) where
  pk := fun v => [.bool v]
  up := fun ls => match ls with
    | [.bool a0] => some a0
    | _ => none
  ok := by
    intro ls v h
    split at h
    · cases h; rfl
    · cases h

def f34_s_l01Few.P : List Arg := [⟨.val, ⟨false, [.sl .shr [.leaf]], [.lst 0 []]⟩⟩]
def f34_s_l01Few.A : RAlt (Bool) := .one ⟨[⟨false, [.leaf], [.bool false]⟩], [none]⟩ sg_b
def f34_s_l01Few.F (n : Nat) (v : Nat × List T) := f34_s_l01Few n v.1 v.2
noncomputable def f34_s_l01Few.O (n : Nat) : Orc := orcOf (E := E) [] [] n
theorem f34_s_l01Few.ok : ∀ n v x, f34_s_l01Few.F n v = some x → evalFn E n 34 (flAs f34_s_l01Few.P (sg_l.pk v)) = some (f34_s_l01Few.A.enc x) :=
  fn_pure (modes := (fdAt 34).ms) (outs := (fdAt 34).os) (results := (fdAt 34).rs) f34_s_l01Few.O (c := c34) (keep := keepAt 34) (by kernel_rfl) (fun n => orcOf_cf _ _ n) (fun n => lpOk_of (bs := []) (by kernel_rfl) .nil) (fun _ => rfl) (fun _ _ => by kernel_rfl)
noncomputable def f34_s_l01Few.w : FnW E := fnW 34 f34_s_l01Few.P sg_l f34_s_l01Few.A f34_s_l01Few.F f34_s_l01Few.ok

def f36_s_l00In : Nat → Int → Int → Int → Option (Bool)
  | 0, _, _, _ => none
  | n + 1, i1, i2, i3 =>
    br (decide (i1 ≥ i2)) (
     some (decide (i1 ≤ i3))) (
     some false)
def sg_iii : Sig (Int × Int × Int) where
  pk := fun v => [.int v.1, .int v.2.1, .int v.2.2]
  up := fun ls => match ls with
    | [.int a0, .int a1, .int a2] => some (a0, a1, a2)
    | _ => none
  ok := by
    intro ls v h
    split at h
    · cases h; rfl
    · cases h

def f36_s_l00In.P : List Arg := [⟨.val, ⟨false, [.leaf], [.int .i64 0]⟩⟩, ⟨.val, ⟨false, [.leaf], [.int .i64 0]⟩⟩, ⟨.val, ⟨false, [.leaf], [.int .i64 0]⟩⟩]
def f36_s_l00In.A : RAlt (Bool) := .one ⟨[⟨false, [.leaf], [.bool false]⟩], [none, none, none]⟩ sg_b
def f36_s_l00In.F (n : Nat) (v : Int × Int × Int) := f36_s_l00In n v.1 v.2.1 v.2.2
noncomputable def f36_s_l00In.O (n : Nat) : Orc := orcOf (E := E) [] [] n
theorem f36_s_l00In.ok : ∀ n v x, f36_s_l00In.F n v = some x → evalFn E n 36 (flAs f36_s_l00In.P (sg_iii.pk v)) = some (f36_s_l00In.A.enc x) :=
  fn_pure (modes := (fdAt 36).ms) (outs := (fdAt 36).os) (results := (fdAt 36).rs) f36_s_l00In.O (c := c36) (keep := keepAt 36) (by kernel_rfl) (fun n => orcOf_cf _ _ n) (fun n => lpOk_of (bs := []) (by kernel_rfl) .nil) (fun _ => rfl) (fun _ _ => by kernel_rfl)
noncomputable def f36_s_l00In.w : FnW E := fnW 36 f36_s_l00In.P sg_iii f36_s_l00In.A f36_s_l00In.F f36_s_l00In.ok

def f50_s_l10Windows : Nat → Nat → List T → Int → Int → Option (Bool)
  | 0, _, _, _, _ => none
  | n + 1, n1, l2, i3, i4 =>
    bd (f34_s_l01Few n n1 l2) fun r5 =>
    let b6 : Bool := r5
    br b6 (
     bd (f36_s_l00In n i3 (1 : Int) (256 : Int)) fun r7 =>
     let b8 : Bool := r7
     br b8 (
      bd (f36_s_l00In n i4 (1 : Int) (256 : Int)) fun r9 =>
      let b10 : Bool := r9
      some b10) (
      some false)) (
     some false)
def sg_lii : Sig (Nat × List T × Int × Int) where
  pk := fun v => [.lst v.1 v.2.1, .int v.2.2.1, .int v.2.2.2]
  up := fun ls => match ls with
    | [.lst a0 a1, .int a2, .int a3] => some (a0, a1, a2, a3)
    | _ => none
  ok := by
    intro ls v h
    split at h
    · cases h; rfl
    · cases h

def f50_s_l10Windows.P : List Arg := [⟨.val, ⟨false, [.sl .shr [.leaf]], [.lst 0 []]⟩⟩, ⟨.val, ⟨false, [.leaf], [.int .i64 0]⟩⟩, ⟨.val, ⟨false, [.leaf], [.int .i64 0]⟩⟩]
def f50_s_l10Windows.A : RAlt (Bool) := .one ⟨[⟨false, [.leaf], [.bool false]⟩], [none, none, none]⟩ sg_b
def f50_s_l10Windows.F (n : Nat) (v : Nat × List T × Int × Int) := f50_s_l10Windows n v.1 v.2.1 v.2.2.1 v.2.2.2
noncomputable def f50_s_l10Windows.O (n : Nat) : Orc := orcOf (E := E) [f34_s_l01Few.w, f36_s_l00In.w] [] n
theorem f50_s_l10Windows.ok : ∀ n v x, f50_s_l10Windows.F n v = some x → evalFn E n 50 (flAs f50_s_l10Windows.P (sg_lii.pk v)) = some (f50_s_l10Windows.A.enc x) :=
  fn_pure (modes := (fdAt 50).ms) (outs := (fdAt 50).os) (results := (fdAt 50).rs) f50_s_l10Windows.O (c := c50) (keep := keepAt 50) (by kernel_rfl) (fun n => orcOf_cf _ _ n) (fun n => lpOk_of (bs := []) (by kernel_rfl) .nil) (fun _ => rfl) (fun _ _ => by kernel_rfl)
noncomputable def f50_s_l10Windows.w : FnW E := fnW 50 f50_s_l10Windows.P sg_lii f50_s_l10Windows.A f50_s_l10Windows.F f50_s_l10Windows.ok

def f53_s_l01Dot.l0 (n : Nat) : Nat → Nat → List T → Nat → List T → Nat → Int → Option (Nat)
  | 0, _, _, _, _, _, _ => none
  | m + 1, n1, l2, n3, l4, x5, i6 =>
    br (decide (i6 < ((n1 : Nat) : Int))) (
     gd ((decide (((0 : Int) ≤ i6) ∧ (i6 < ((n1 : Nat) : Int)))) && (okAt [(CK.flt FloatKind.f32)] l2 (Int.toNat i6))) (
     gd ((decide (((0 : Int) ≤ i6) ∧ (i6 < ((n3 : Nat) : Int)))) && (okAt [(CK.flt FloatKind.f32)] l4 (Int.toNat i6))) (
     let x7 : Nat := (fadd FloatKind.f32 x5 (fmul FloatKind.f32 (fAt l2 (Int.toNat i6)) (fAt l4 (Int.toNat i6))))
     f53_s_l01Dot.l0 n m n1 l2 n3 l4 x7 (IntKind.i64.wrap (i6 + (1 : Int)))))) (
     some x5)
def f53_s_l01Dot : Nat → Nat → List T → Nat → List T → Option (Nat)
  | 0, _, _, _, _ => none
  | n + 1, n1, l2, n3, l4 =>
    bd (f53_s_l01Dot.l0 n n n1 l2 n3 l4 0 (0 : Int)) fun r5 =>
    let x6 : Nat := r5
    some x6
def sg_ll : Sig (Nat × List T × Nat × List T) where
  pk := fun v => [.lst v.1 v.2.1, .lst v.2.2.1 v.2.2.2]
  up := fun ls => match ls with
    | [.lst a0 a1, .lst a2 a3] => some (a0, a1, a2, a3)
    | _ => none
  ok := by
    intro ls v h
    split at h
    · cases h; rfl
    · cases h

def sg_f : Sig (Nat) where
  pk := fun v => [.flt v]
  up := fun ls => match ls with
    | [.flt a0] => some a0
    | _ => none
  ok := by
    intro ls v h
    split at h
    · cases h; rfl
    · cases h

def sg_llfi : Sig (Nat × List T × Nat × List T × Nat × Int) where
  pk := fun v => [.lst v.1 v.2.1, .lst v.2.2.1 v.2.2.2.1, .flt v.2.2.2.2.1, .int v.2.2.2.2.2]
  up := fun ls => match ls with
    | [.lst a0 a1, .lst a2 a3, .flt a4, .int a5] => some (a0, a1, a2, a3, a4, a5)
    | _ => none
  ok := by
    intro ls v h
    split at h
    · cases h; rfl
    · cases h

def f53_s_l01Dot.l0.P : AS := ⟨[(0, .val false [.sl .shr [.leaf]] [.lst 0 []] [] 0), (1, .val false [.sl .shr [.leaf]] [.lst 0 []] [] 0), (5, .val false [.leaf] [.flt .f32 0] [] 0), (6, .val false [.leaf] [.int .i64 0] [] 0)], 0⟩
def f53_s_l01Dot.l0.A : Alt (Nat) := .one (.exit 0) ⟨[(5, .val false [.leaf] [.flt .f32 0] [] 0)], 0⟩ sg_f
def f53_s_l01Dot.l0.F (n m : Nat) (v : Nat × List T × Nat × List T × Nat × Int) := f53_s_l01Dot.l0 n m v.1 v.2.1 v.2.2.1 v.2.2.2.1 v.2.2.2.2.1 v.2.2.2.2.2
def f53_s_l01Dot.l0.W (n : Nat) : LpW := .of 48 f53_s_l01Dot.l0.P sg_llfi f53_s_l01Dot.l0.A (f53_s_l01Dot.l0.F n n)
def f53_s_l01Dot.P : List Arg := [⟨.val, ⟨false, [.sl .shr [.leaf]], [.lst 0 []]⟩⟩, ⟨.val, ⟨false, [.sl .shr [.leaf]], [.lst 0 []]⟩⟩]
def f53_s_l01Dot.A : RAlt (Nat) := .one ⟨[⟨false, [.leaf], [.flt .f32 0]⟩], [none, none]⟩ sg_f
def f53_s_l01Dot.F (n : Nat) (v : Nat × List T × Nat × List T) := f53_s_l01Dot n v.1 v.2.1 v.2.2.1 v.2.2.2
noncomputable def f53_s_l01Dot.O (n : Nat) : Orc := orcOf (E := E) [] [f53_s_l01Dot.l0.W n] n
theorem f53_s_l01Dot.l0.ok (n : Nat) : LpOk (f53_s_l01Dot.O n) E (evalFn E n) n (keepAt 53) (.loop (loopAt c53 0)) :=
  lp_pure f53_s_l01Dot.l0.P sg_llfi f53_s_l01Dot.l0.A (f53_s_l01Dot.l0.F n) (orcOf_cf _ _ n) (lpOk_of (bs := []) (by kernel_rfl) .nil) (fun _ => rfl) (fun _ _ => by kernel_rfl) (fun _ _ _ => by kernel_rfl)
theorem f53_s_l01Dot.ok : ∀ n v x, f53_s_l01Dot.F n v = some x → evalFn E n 53 (flAs f53_s_l01Dot.P (sg_ll.pk v)) = some (f53_s_l01Dot.A.enc x) :=
  fn_pure (modes := (fdAt 53).ms) (outs := (fdAt 53).os) (results := (fdAt 53).rs) f53_s_l01Dot.O (c := c53) (keep := keepAt 53) (by kernel_rfl) (fun n => orcOf_cf _ _ n) (fun n => lpOk_of (bs := [loopAt c53 0]) (by kernel_rfl) (.cons (f53_s_l01Dot.l0.ok n) .nil)) (fun _ => rfl) (fun _ _ => by kernel_rfl)
noncomputable def f53_s_l01Dot.w : FnW E := fnW 53 f53_s_l01Dot.P sg_ll f53_s_l01Dot.A f53_s_l01Dot.F f53_s_l01Dot.ok

def f51_s_l10Powers.l0 (n : Nat) : Nat → Nat → List T → Int → Int → Nat → List T → Int → Option (Nat × List T)
  | 0, _, _, _, _, _, _, _ => none
  | m + 1, n1, l2, i3, i4, n5, l6, i7 =>
    br (decide ((IntKind.i64.wrap (i7 + i3)) ≤ ((n1 : Nat) : Int))) (
     gd (decide (((0 : Int) ≤ i7) ∧ ((i7 ≤ (IntKind.i64.wrap (i7 + i3))) ∧ ((IntKind.i64.wrap (i7 + i3)) ≤ ((n1 : Nat) : Int))))) (
     let n8 : Nat := ((Int.toNat (IntKind.i64.wrap (i7 + i3))) - (Int.toNat i7))
     let l9 : List T := (List.take ((Int.toNat (IntKind.i64.wrap (i7 + i3))) - (Int.toNat i7)) (List.drop (Int.toNat i7) l2))
     bd (f53_s_l01Dot n n8 l9 n8 l9) fun r10 =>
     let x11 : Nat := r10
     gd (Nat.ble (n5 + 1) 2147483648) (
     let n12 : Nat := (n5 + 1)
     let l13 : List T := (l6 ++ (setN (reps 1 [(T.flt FloatKind.f32 0)]) 0 [(T.flt FloatKind.f32 (fdiv FloatKind.f32 x11 (FloatKind.nearest FloatKind.f32 i3)))]))
     f51_s_l10Powers.l0 n m n1 l2 i3 i4 n12 l13 (IntKind.i64.wrap (i7 + i4))))) (
     some (n5, l6))
def f51_s_l10Powers : Nat → Nat → List T → Int → Int → Option (Nat × List T)
  | 0, _, _, _, _ => none
  | n + 1, n1, l2, i3, i4 =>
    bd (f51_s_l10Powers.l0 n n n1 l2 i3 i4 0 (reps 0 [(T.flt FloatKind.f32 0)]) (0 : Int)) fun r5 =>
    let n6 : Nat := r5.1
    let l7 : List T := r5.2
    some (n6, l7)
def sg_liili : Sig (Nat × List T × Int × Int × Nat × List T × Int) where
  pk := fun v => [.lst v.1 v.2.1, .int v.2.2.1, .int v.2.2.2.1, .lst v.2.2.2.2.1 v.2.2.2.2.2.1, .int v.2.2.2.2.2.2]
  up := fun ls => match ls with
    | [.lst a0 a1, .int a2, .int a3, .lst a4 a5, .int a6] => some (a0, a1, a2, a3, a4, a5, a6)
    | _ => none
  ok := by
    intro ls v h
    split at h
    · cases h; rfl
    · cases h

def f51_s_l10Powers.l0.P : AS := ⟨[(0, .val false [.sl .shr [.leaf]] [.lst 0 []] [] 0), (1, .val false [.leaf] [.int .i64 0] [] 0), (2, .val false [.leaf] [.int .i64 0] [] 0), (7, .val false [.sl .own [.leaf]] [.lst 0 []] [] 0), (8, .val false [.leaf] [.int .i64 0] [] 0)], 0⟩
def f51_s_l10Powers.l0.A : Alt (Nat × List T) := .one (.exit 0) ⟨[(7, .val false [.sl .own [.leaf]] [.lst 0 []] [] 0)], 0⟩ sg_l
def f51_s_l10Powers.l0.F (n m : Nat) (v : Nat × List T × Int × Int × Nat × List T × Int) := f51_s_l10Powers.l0 n m v.1 v.2.1 v.2.2.1 v.2.2.2.1 v.2.2.2.2.1 v.2.2.2.2.2.1 v.2.2.2.2.2.2
def f51_s_l10Powers.l0.W (n : Nat) : LpW := .of 48 f51_s_l10Powers.l0.P sg_liili f51_s_l10Powers.l0.A (f51_s_l10Powers.l0.F n n)
def f51_s_l10Powers.P : List Arg := [⟨.val, ⟨false, [.sl .shr [.leaf]], [.lst 0 []]⟩⟩, ⟨.val, ⟨false, [.leaf], [.int .i64 0]⟩⟩, ⟨.val, ⟨false, [.leaf], [.int .i64 0]⟩⟩]
def f51_s_l10Powers.A : RAlt (Nat × List T) := .one ⟨[⟨false, [.sl .own [.leaf]], [.lst 0 []]⟩], [none, none, none]⟩ sg_l
def f51_s_l10Powers.F (n : Nat) (v : Nat × List T × Int × Int) := f51_s_l10Powers n v.1 v.2.1 v.2.2.1 v.2.2.2
noncomputable def f51_s_l10Powers.O (n : Nat) : Orc := orcOf (E := E) [f53_s_l01Dot.w] [f51_s_l10Powers.l0.W n] n
theorem f51_s_l10Powers.l0.ok (n : Nat) : LpOk (f51_s_l10Powers.O n) E (evalFn E n) n (keepAt 51) (.loop (loopAt c51 0)) :=
  lp_pure f51_s_l10Powers.l0.P sg_liili f51_s_l10Powers.l0.A (f51_s_l10Powers.l0.F n) (orcOf_cf _ _ n) (lpOk_of (bs := []) (by kernel_rfl) .nil) (fun _ => rfl) (fun _ _ => by kernel_rfl) (fun _ _ _ => by kernel_rfl)
theorem f51_s_l10Powers.ok : ∀ n v x, f51_s_l10Powers.F n v = some x → evalFn E n 51 (flAs f51_s_l10Powers.P (sg_lii.pk v)) = some (f51_s_l10Powers.A.enc x) :=
  fn_pure (modes := (fdAt 51).ms) (outs := (fdAt 51).os) (results := (fdAt 51).rs) f51_s_l10Powers.O (c := c51) (keep := keepAt 51) (by kernel_rfl) (fun n => orcOf_cf _ _ n) (fun n => lpOk_of (bs := [loopAt c51 0]) (by kernel_rfl) (.cons (f51_s_l10Powers.l0.ok n) .nil)) (fun _ => rfl) (fun _ _ => by kernel_rfl)
noncomputable def f51_s_l10Powers.w : FnW E := fnW 51 f51_s_l10Powers.P sg_lii f51_s_l10Powers.A f51_s_l10Powers.F f51_s_l10Powers.ok

def f23_s_WindowPowers : Nat → Nat → List T → Int → Int → Option (Nat × List T × Bool)
  | 0, _, _, _, _ => none
  | n + 1, n1, l2, i3, i4 =>
    bd (f50_s_l10Windows n n1 l2 i3 i4) fun r5 =>
    let b6 : Bool := r5
    br (!b6) (
     some (0, [], false)) (
     bd (f51_s_l10Powers n n1 l2 i3 i4) fun r7 =>
     let n8 : Nat := r7.1
     let l9 : List T := r7.2
     some (n8, l9, true))
def sg_lb : Sig (Nat × List T × Bool) where
  pk := fun v => [.lst v.1 v.2.1, .bool v.2.2]
  up := fun ls => match ls with
    | [.lst a0 a1, .bool a2] => some (a0, a1, a2)
    | _ => none
  ok := by
    intro ls v h
    split at h
    · cases h; rfl
    · cases h

def f23_s_WindowPowers.P : List Arg := [⟨.val, ⟨false, [.sl .shr [.leaf]], [.lst 0 []]⟩⟩, ⟨.val, ⟨false, [.leaf], [.int .i64 0]⟩⟩, ⟨.val, ⟨false, [.leaf], [.int .i64 0]⟩⟩]
def f23_s_WindowPowers.A : RAlt (Nat × List T × Bool) := .one ⟨[⟨false, [.sl .own [.leaf]], [.lst 0 []]⟩, ⟨false, [.leaf], [.bool false]⟩], [none, none, none]⟩ sg_lb
def f23_s_WindowPowers.F (n : Nat) (v : Nat × List T × Int × Int) := f23_s_WindowPowers n v.1 v.2.1 v.2.2.1 v.2.2.2
noncomputable def f23_s_WindowPowers.O (n : Nat) : Orc := orcOf (E := E) [f50_s_l10Windows.w, f51_s_l10Powers.w] [] n
theorem f23_s_WindowPowers.ok : ∀ n v x, f23_s_WindowPowers.F n v = some x → evalFn E n 23 (flAs f23_s_WindowPowers.P (sg_lii.pk v)) = some (f23_s_WindowPowers.A.enc x) :=
  fn_pure (modes := (fdAt 23).ms) (outs := (fdAt 23).os) (results := (fdAt 23).rs) f23_s_WindowPowers.O (c := c23) (keep := keepAt 23) (by kernel_rfl) (fun n => orcOf_cf _ _ n) (fun n => lpOk_of (bs := []) (by kernel_rfl) .nil) (fun _ => rfl) (fun _ _ => by kernel_rfl)
noncomputable def f23_s_WindowPowers.w : FnW E := fnW 23 f23_s_WindowPowers.P sg_lii f23_s_WindowPowers.A f23_s_WindowPowers.F f23_s_WindowPowers.ok

def f35_i_areSamples : Nat → Nat → List T → Option (Bool)
  | 0, _, _ => none
  | n + 1, n1, l2 =>
    some (decide (((n1 : Nat) : Int) ≤ (256 : Int)))
def f35_i_areSamples.P : List Arg := [⟨.val, ⟨false, [.sl .shr [.leaf]], [.lst 0 []]⟩⟩]
def f35_i_areSamples.A : RAlt (Bool) := .one ⟨[⟨false, [.leaf], [.bool false]⟩], [none]⟩ sg_b
def f35_i_areSamples.F (n : Nat) (v : Nat × List T) := f35_i_areSamples n v.1 v.2
noncomputable def f35_i_areSamples.O (n : Nat) : Orc := orcOf (E := E) [] [] n
theorem f35_i_areSamples.ok : ∀ n v x, f35_i_areSamples.F n v = some x → evalFn E n 35 (flAs f35_i_areSamples.P (sg_l.pk v)) = some (f35_i_areSamples.A.enc x) :=
  fn_pure (modes := (fdAt 35).ms) (outs := (fdAt 35).os) (results := (fdAt 35).rs) f35_i_areSamples.O (c := c35) (keep := keepAt 35) (by kernel_rfl) (fun n => orcOf_cf _ _ n) (fun n => lpOk_of (bs := []) (by kernel_rfl) .nil) (fun _ => rfl) (fun _ _ => by kernel_rfl)
noncomputable def f35_i_areSamples.w : FnW E := fnW 35 f35_i_areSamples.P sg_l f35_i_areSamples.A f35_i_areSamples.F f35_i_areSamples.ok

def f39_i_within : Nat → Int → Int → Int → Option (Bool)
  | 0, _, _, _ => none
  | n + 1, i1, i2, i3 =>
    br (decide (i2 ≤ i1)) (
     some (decide (i1 ≤ i3))) (
     some false)
def f39_i_within.P : List Arg := [⟨.val, ⟨false, [.leaf], [.int .i64 0]⟩⟩, ⟨.val, ⟨false, [.leaf], [.int .i64 0]⟩⟩, ⟨.val, ⟨false, [.leaf], [.int .i64 0]⟩⟩]
def f39_i_within.A : RAlt (Bool) := .one ⟨[⟨false, [.leaf], [.bool false]⟩], [none, none, none]⟩ sg_b
def f39_i_within.F (n : Nat) (v : Int × Int × Int) := f39_i_within n v.1 v.2.1 v.2.2
noncomputable def f39_i_within.O (n : Nat) : Orc := orcOf (E := E) [] [] n
theorem f39_i_within.ok : ∀ n v x, f39_i_within.F n v = some x → evalFn E n 39 (flAs f39_i_within.P (sg_iii.pk v)) = some (f39_i_within.A.enc x) :=
  fn_pure (modes := (fdAt 39).ms) (outs := (fdAt 39).os) (results := (fdAt 39).rs) f39_i_within.O (c := c39) (keep := keepAt 39) (by kernel_rfl) (fun n => orcOf_cf _ _ n) (fun n => lpOk_of (bs := []) (by kernel_rfl) .nil) (fun _ => rfl) (fun _ _ => by kernel_rfl)
noncomputable def f39_i_within.w : FnW E := fnW 39 f39_i_within.P sg_iii f39_i_within.A f39_i_within.F f39_i_within.ok

def f52_i_dot.l0 (n : Nat) : Nat → Nat → List T → Nat → List T → Nat → Int → Int → Option (Nat)
  | 0, _, _, _, _, _, _, _ => none
  | m + 1, n1, l2, n3, l4, x5, i6, i7 =>
    br (decide (i7 < i6)) (
     gd ((decide (((0 : Int) ≤ i7) ∧ (i7 < ((n1 : Nat) : Int)))) && (okAt [(CK.flt FloatKind.f32)] l2 (Int.toNat i7))) (
     gd ((decide (((0 : Int) ≤ i7) ∧ (i7 < ((n3 : Nat) : Int)))) && (okAt [(CK.flt FloatKind.f32)] l4 (Int.toNat i7))) (
     let x8 : Nat := (fadd FloatKind.f32 x5 (fmul FloatKind.f32 (fAt l2 (Int.toNat i7)) (fAt l4 (Int.toNat i7))))
     f52_i_dot.l0 n m n1 l2 n3 l4 x8 i6 (IntKind.i64.wrap (i7 + (1 : Int)))))) (
     some x5)
def f52_i_dot : Nat → Nat → List T → Nat → List T → Option (Nat)
  | 0, _, _, _, _ => none
  | n + 1, n1, l2, n3, l4 =>
    bd (f52_i_dot.l0 n n n1 l2 n3 l4 0 ((n1 : Nat) : Int) (0 : Int)) fun r5 =>
    let x6 : Nat := r5
    some x6
def sg_llfii : Sig (Nat × List T × Nat × List T × Nat × Int × Int) where
  pk := fun v => [.lst v.1 v.2.1, .lst v.2.2.1 v.2.2.2.1, .flt v.2.2.2.2.1, .int v.2.2.2.2.2.1, .int v.2.2.2.2.2.2]
  up := fun ls => match ls with
    | [.lst a0 a1, .lst a2 a3, .flt a4, .int a5, .int a6] => some (a0, a1, a2, a3, a4, a5, a6)
    | _ => none
  ok := by
    intro ls v h
    split at h
    · cases h; rfl
    · cases h

def f52_i_dot.l0.P : AS := ⟨[(0, .val false [.sl .shr [.leaf]] [.lst 0 []] [] 0), (1, .val false [.sl .shr [.leaf]] [.lst 0 []] [] 0), (5, .val false [.leaf] [.flt .f32 0] [] 0), (8, .val false [.leaf] [.int .i64 0] [] 0), (9, .val false [.leaf] [.int .i64 0] [] 0)], 0⟩
def f52_i_dot.l0.A : Alt (Nat) := .one (.exit 0) ⟨[(5, .val false [.leaf] [.flt .f32 0] [] 0)], 0⟩ sg_f
def f52_i_dot.l0.F (n m : Nat) (v : Nat × List T × Nat × List T × Nat × Int × Int) := f52_i_dot.l0 n m v.1 v.2.1 v.2.2.1 v.2.2.2.1 v.2.2.2.2.1 v.2.2.2.2.2.1 v.2.2.2.2.2.2
def f52_i_dot.l0.W (n : Nat) : LpW := .of 48 f52_i_dot.l0.P sg_llfii f52_i_dot.l0.A (f52_i_dot.l0.F n n)
def f52_i_dot.P : List Arg := [⟨.val, ⟨false, [.sl .shr [.leaf]], [.lst 0 []]⟩⟩, ⟨.val, ⟨false, [.sl .shr [.leaf]], [.lst 0 []]⟩⟩]
def f52_i_dot.A : RAlt (Nat) := .one ⟨[⟨false, [.leaf], [.flt .f32 0]⟩], [none, none]⟩ sg_f
def f52_i_dot.F (n : Nat) (v : Nat × List T × Nat × List T) := f52_i_dot n v.1 v.2.1 v.2.2.1 v.2.2.2
noncomputable def f52_i_dot.O (n : Nat) : Orc := orcOf (E := E) [] [f52_i_dot.l0.W n] n
theorem f52_i_dot.l0.ok (n : Nat) : LpOk (f52_i_dot.O n) E (evalFn E n) n (keepAt 52) (.loop (loopAt c52 0)) :=
  lp_pure f52_i_dot.l0.P sg_llfii f52_i_dot.l0.A (f52_i_dot.l0.F n) (orcOf_cf _ _ n) (lpOk_of (bs := []) (by kernel_rfl) .nil) (fun _ => rfl) (fun _ _ => by kernel_rfl) (fun _ _ _ => by kernel_rfl)
theorem f52_i_dot.ok : ∀ n v x, f52_i_dot.F n v = some x → evalFn E n 52 (flAs f52_i_dot.P (sg_ll.pk v)) = some (f52_i_dot.A.enc x) :=
  fn_pure (modes := (fdAt 52).ms) (outs := (fdAt 52).os) (results := (fdAt 52).rs) f52_i_dot.O (c := c52) (keep := keepAt 52) (by kernel_rfl) (fun n => orcOf_cf _ _ n) (fun n => lpOk_of (bs := [loopAt c52 0]) (by kernel_rfl) (.cons (f52_i_dot.l0.ok n) .nil)) (fun _ => rfl) (fun _ _ => by kernel_rfl)
noncomputable def f52_i_dot.w : FnW E := fnW 52 f52_i_dot.P sg_ll f52_i_dot.A f52_i_dot.F f52_i_dot.ok

def f24_i_WindowPowers.l0 (n : Nat) : Nat → Nat → List T → Int → Int → Nat → List T → Int → Option (Nat × List T)
  | 0, _, _, _, _, _, _, _ => none
  | m + 1, n1, l2, i3, i4, n5, l6, i7 =>
    br (decide ((IntKind.i64.wrap (i7 + i3)) ≤ ((n1 : Nat) : Int))) (
     gd (decide (((0 : Int) ≤ i7) ∧ ((i7 ≤ (IntKind.i64.wrap (i7 + i3))) ∧ ((IntKind.i64.wrap (i7 + i3)) ≤ ((n1 : Nat) : Int))))) (
     let n8 : Nat := ((Int.toNat (IntKind.i64.wrap (i7 + i3))) - (Int.toNat i7))
     let l9 : List T := (List.take ((Int.toNat (IntKind.i64.wrap (i7 + i3))) - (Int.toNat i7)) (List.drop (Int.toNat i7) l2))
     bd (f52_i_dot n n8 l9 n8 l9) fun r10 =>
     let x11 : Nat := r10
     gd (Nat.ble (n5 + 1) 2147483648) (
     let n12 : Nat := (n5 + 1)
     let l13 : List T := (l6 ++ (setN (reps 1 [(T.flt FloatKind.f32 0)]) 0 [(T.flt FloatKind.f32 (fdiv FloatKind.f32 x11 (FloatKind.nearest FloatKind.f32 i3)))]))
     f24_i_WindowPowers.l0 n m n1 l2 i3 i4 n12 l13 (IntKind.i64.wrap (i7 + i4))))) (
     some (n5, l6))
def f24_i_WindowPowers : Nat → Nat → List T → Int → Int → Option (Nat × List T × Bool)
  | 0, _, _, _, _ => none
  | n + 1, n1, l2, i3, i4 =>
    bd (f35_i_areSamples n n1 l2) fun r5 =>
    let b6 : Bool := r5
    br (!b6) (
     some (0, [], false)) (
     bd (f39_i_within n i3 (1 : Int) (256 : Int)) fun r7 =>
     let b8 : Bool := r7
     br (!b8) (
      some (0, [], false)) (
      bd (f39_i_within n i4 (1 : Int) (256 : Int)) fun r9 =>
      let b10 : Bool := r9
      br (!b10) (
       some (0, [], false)) (
       bd (f24_i_WindowPowers.l0 n n n1 l2 i3 i4 0 [] (0 : Int)) fun r11 =>
       let n12 : Nat := r11.1
       let l13 : List T := r11.2
       some (n12, l13, true))))
def f24_i_WindowPowers.l0.P : AS := ⟨[(0, .val false [.sl .shr [.leaf]] [.lst 0 []] [] 0), (1, .val false [.leaf] [.int .i64 0] [] 0), (2, .val false [.leaf] [.int .i64 0] [] 0), (8, .val false [.sl .own [.leaf]] [.lst 0 []] [] 0), (9, .val false [.leaf] [.int .i64 0] [] 0)], 0⟩
def f24_i_WindowPowers.l0.A : Alt (Nat × List T) := .one (.exit 0) ⟨[(8, .val false [.sl .own [.leaf]] [.lst 0 []] [] 0)], 0⟩ sg_l
def f24_i_WindowPowers.l0.F (n m : Nat) (v : Nat × List T × Int × Int × Nat × List T × Int) := f24_i_WindowPowers.l0 n m v.1 v.2.1 v.2.2.1 v.2.2.2.1 v.2.2.2.2.1 v.2.2.2.2.2.1 v.2.2.2.2.2.2
def f24_i_WindowPowers.l0.W (n : Nat) : LpW := .of 80 f24_i_WindowPowers.l0.P sg_liili f24_i_WindowPowers.l0.A (f24_i_WindowPowers.l0.F n n)
def f24_i_WindowPowers.P : List Arg := [⟨.val, ⟨false, [.sl .shr [.leaf]], [.lst 0 []]⟩⟩, ⟨.val, ⟨false, [.leaf], [.int .i64 0]⟩⟩, ⟨.val, ⟨false, [.leaf], [.int .i64 0]⟩⟩]
def f24_i_WindowPowers.A : RAlt (Nat × List T × Bool) := .one ⟨[⟨false, [.sl .own [.leaf]], [.lst 0 []]⟩, ⟨false, [.leaf], [.bool false]⟩], [none, none, none]⟩ sg_lb
def f24_i_WindowPowers.F (n : Nat) (v : Nat × List T × Int × Int) := f24_i_WindowPowers n v.1 v.2.1 v.2.2.1 v.2.2.2
noncomputable def f24_i_WindowPowers.O (n : Nat) : Orc := orcOf (E := E) [f35_i_areSamples.w, f39_i_within.w, f52_i_dot.w] [f24_i_WindowPowers.l0.W n] n
theorem f24_i_WindowPowers.l0.ok (n : Nat) : LpOk (f24_i_WindowPowers.O n) E (evalFn E n) n (keepAt 24) (.loop (loopAt c24 0)) :=
  lp_pure f24_i_WindowPowers.l0.P sg_liili f24_i_WindowPowers.l0.A (f24_i_WindowPowers.l0.F n) (orcOf_cf _ _ n) (lpOk_of (bs := []) (by kernel_rfl) .nil) (fun _ => rfl) (fun _ _ => by kernel_rfl) (fun _ _ _ => by kernel_rfl)
theorem f24_i_WindowPowers.ok : ∀ n v x, f24_i_WindowPowers.F n v = some x → evalFn E n 24 (flAs f24_i_WindowPowers.P (sg_lii.pk v)) = some (f24_i_WindowPowers.A.enc x) :=
  fn_pure (modes := (fdAt 24).ms) (outs := (fdAt 24).os) (results := (fdAt 24).rs) f24_i_WindowPowers.O (c := c24) (keep := keepAt 24) (by kernel_rfl) (fun n => orcOf_cf _ _ n) (fun n => lpOk_of (bs := [loopAt c24 0]) (by kernel_rfl) (.cons (f24_i_WindowPowers.l0.ok n) .nil)) (fun _ => rfl) (fun _ _ => by kernel_rfl)
noncomputable def f24_i_WindowPowers.w : FnW E := fnW 24 f24_i_WindowPowers.P sg_lii f24_i_WindowPowers.A f24_i_WindowPowers.F f24_i_WindowPowers.ok

def f15_l_sameFloat : Nat → Nat → Nat → Option (Bool)
  | 0, _, _ => none
  | n + 1, x1, x2 =>
    br (fne FloatKind.f64 x1 x1) (
     br (fne FloatKind.f64 x1 x1) (
      some (fne FloatKind.f64 x2 x2)) (
      some false)) (
     br (fne FloatKind.f64 x2 x2) (
      br (fne FloatKind.f64 x1 x1) (
       some (fne FloatKind.f64 x2 x2)) (
       some false)) (
      br (feq FloatKind.f64 x1 0) (
       br (feq FloatKind.f64 x2 0) (
        some ((fgt FloatKind.f64 (fdiv FloatKind.f64 4607182418800017408 x1) 0) == (fgt FloatKind.f64 (fdiv FloatKind.f64 4607182418800017408 x2) 0))) (
        some (feq FloatKind.f64 x1 x2))) (
       some (feq FloatKind.f64 x1 x2))))
def sg_ff : Sig (Nat × Nat) where
  pk := fun v => [.flt v.1, .flt v.2]
  up := fun ls => match ls with
    | [.flt a0, .flt a1] => some (a0, a1)
    | _ => none
  ok := by
    intro ls v h
    split at h
    · cases h; rfl
    · cases h

def f15_l_sameFloat.P : List Arg := [⟨.val, ⟨false, [.leaf], [.flt .f64 0]⟩⟩, ⟨.val, ⟨false, [.leaf], [.flt .f64 0]⟩⟩]
def f15_l_sameFloat.A : RAlt (Bool) := .one ⟨[⟨false, [.leaf], [.bool false]⟩], [none, none]⟩ sg_b
def f15_l_sameFloat.F (n : Nat) (v : Nat × Nat) := f15_l_sameFloat n v.1 v.2
noncomputable def f15_l_sameFloat.O (n : Nat) : Orc := orcOf (E := E) [] [] n
theorem f15_l_sameFloat.ok : ∀ n v x, f15_l_sameFloat.F n v = some x → evalFn E n 15 (flAs f15_l_sameFloat.P (sg_ff.pk v)) = some (f15_l_sameFloat.A.enc x) :=
  fn_pure (modes := (fdAt 15).ms) (outs := (fdAt 15).os) (results := (fdAt 15).rs) f15_l_sameFloat.O (c := c15) (keep := keepAt 15) (by kernel_rfl) (fun n => orcOf_cf _ _ n) (fun n => lpOk_of (bs := []) (by kernel_rfl) .nil) (fun _ => rfl) (fun _ _ => by kernel_rfl)
noncomputable def f15_l_sameFloat.w : FnW E := fnW 15 f15_l_sameFloat.P sg_ff f15_l_sameFloat.A f15_l_sameFloat.F f15_l_sameFloat.ok

def f12_l_eqFloat32S.l0 (n : Nat) : Nat → Nat → List T → Nat → List T → Int → Option ((Bool) ⊕ (Unit))
  | 0, _, _, _, _, _ => none
  | m + 1, n1, l2, n3, l4, i5 =>
    br (decide (i5 < ((n1 : Nat) : Int))) (
     gd ((decide (((0 : Int) ≤ i5) ∧ (i5 < ((n1 : Nat) : Int)))) && (okAt [(CK.flt FloatKind.f32)] l2 (Int.toNat i5))) (
     bd ((fltToFlt FloatKind.f32 (fAt l2 (Int.toNat i5)) FloatKind.f64)) fun y6 =>
     gd ((decide (((0 : Int) ≤ i5) ∧ (i5 < ((n3 : Nat) : Int)))) && (okAt [(CK.flt FloatKind.f32)] l4 (Int.toNat i5))) (
     bd ((fltToFlt FloatKind.f32 (fAt l4 (Int.toNat i5)) FloatKind.f64)) fun y7 =>
     bd (f15_l_sameFloat n y6 y7) fun r8 =>
     let b9 : Bool := r8
     br (!b9) (
      some (Sum.inl false)) (
      f12_l_eqFloat32S.l0 n m n1 l2 n3 l4 (IntKind.i64.wrap (i5 + (1 : Int))))))) (
     some (Sum.inr ()))
def f12_l_eqFloat32S : Nat → Nat → List T → Nat → List T → Option (Bool)
  | 0, _, _, _, _ => none
  | n + 1, n1, l2, n3, l4 =>
    br (((n1 : Nat) : Int) != ((n3 : Nat) : Int)) (
     some false) (
     bd (f12_l_eqFloat32S.l0 n n n1 l2 n3 l4 (0 : Int)) fun r5 =>
     sm r5 (fun u6 =>
      let b7 : Bool := u6
      some b7) (fun u8 =>
      some true))
def sg : Sig (Unit) where
  pk := fun v => []
  up := fun ls => match ls with
    | [] => some ()
    | _ => none
  ok := by
    intro ls v h
    split at h
    · cases h; rfl
    · cases h

def f12_l_eqFloat32S.l0.P : AS := ⟨[(0, .val false [.sl .shr [.leaf]] [.lst 0 []] [] 0), (1, .val false [.sl .shr [.leaf]] [.lst 0 []] [] 0), (5, .val false [.leaf] [.int .i64 0] [] 0)], 0⟩
def f12_l_eqFloat32S.l0.A : Alt ((Bool) ⊕ (Unit)) := .or (.one .ret ⟨[(4, .val false [.leaf] [.bool false] [] 0)], 0⟩ sg_b) (.one (.exit 0) ⟨[(4, .dead)], 0⟩ sg)
def f12_l_eqFloat32S.l0.F (n m : Nat) (v : Nat × List T × Nat × List T × Int) := f12_l_eqFloat32S.l0 n m v.1 v.2.1 v.2.2.1 v.2.2.2.1 v.2.2.2.2
def f12_l_eqFloat32S.l0.W (n : Nat) : LpW := .of 64 f12_l_eqFloat32S.l0.P sg_lli f12_l_eqFloat32S.l0.A (f12_l_eqFloat32S.l0.F n n)
def f12_l_eqFloat32S.P : List Arg := [⟨.val, ⟨false, [.sl .shr [.leaf]], [.lst 0 []]⟩⟩, ⟨.val, ⟨false, [.sl .shr [.leaf]], [.lst 0 []]⟩⟩]
def f12_l_eqFloat32S.A : RAlt (Bool) := .one ⟨[⟨false, [.leaf], [.bool false]⟩], [none, none]⟩ sg_b
def f12_l_eqFloat32S.F (n : Nat) (v : Nat × List T × Nat × List T) := f12_l_eqFloat32S n v.1 v.2.1 v.2.2.1 v.2.2.2
noncomputable def f12_l_eqFloat32S.O (n : Nat) : Orc := orcOf (E := E) [f15_l_sameFloat.w] [f12_l_eqFloat32S.l0.W n] n
theorem f12_l_eqFloat32S.l0.ok (n : Nat) : LpOk (f12_l_eqFloat32S.O n) E (evalFn E n) n (keepAt 12) (.loop (loopAt c12 0)) :=
  lp_pure f12_l_eqFloat32S.l0.P sg_lli f12_l_eqFloat32S.l0.A (f12_l_eqFloat32S.l0.F n) (orcOf_cf _ _ n) (lpOk_of (bs := []) (by kernel_rfl) .nil) (fun _ => rfl) (fun _ _ => by kernel_rfl) (fun _ _ _ => by kernel_rfl)
theorem f12_l_eqFloat32S.ok : ∀ n v x, f12_l_eqFloat32S.F n v = some x → evalFn E n 12 (flAs f12_l_eqFloat32S.P (sg_ll.pk v)) = some (f12_l_eqFloat32S.A.enc x) :=
  fn_pure (modes := (fdAt 12).ms) (outs := (fdAt 12).os) (results := (fdAt 12).rs) f12_l_eqFloat32S.O (c := c12) (keep := keepAt 12) (by kernel_rfl) (fun n => orcOf_cf _ _ n) (fun n => lpOk_of (bs := [loopAt c12 0]) (by kernel_rfl) (.cons (f12_l_eqFloat32S.l0.ok n) .nil)) (fun _ => rfl) (fun _ _ => by kernel_rfl)
noncomputable def f12_l_eqFloat32S.w : FnW E := fnW 12 f12_l_eqFloat32S.P sg_ll f12_l_eqFloat32S.A f12_l_eqFloat32S.F f12_l_eqFloat32S.ok

def f25_l_markFloat32S.l0 (n : Nat) : Nat → Nat → List T → Int → Int → Option (Nat × List T × Int)
  | 0, _, _, _, _ => none
  | m + 1, n1, l2, i3, i4 =>
    br (decide (i4 < ((n1 : Nat) : Int))) (
     gd (decide (((0 : Int) ≤ i4) ∧ (i4 < ((n1 : Nat) : Int)))) (
     gd (Nat.ble ((Int.toNat i4) + 1) (List.length l2)) (
     let l5 : List T := (setN l2 (Int.toNat i4) [(T.flt FloatKind.f32 (FloatKind.nearest FloatKind.f32 i3))])
     let i6 : Int := (IntKind.i64.wrap (i3 + (1 : Int)))
     f25_l_markFloat32S.l0 n m n1 l5 i6 (IntKind.i64.wrap (i4 + (1 : Int)))))) (
     some (n1, l2, i3))
def f25_l_markFloat32S : Nat → Nat → List T → Int → Option (Int × Nat × List T)
  | 0, _, _, _ => none
  | n + 1, n1, l2, i3 =>
    bd (f25_l_markFloat32S.l0 n n n1 l2 i3 (0 : Int)) fun r4 =>
    let n5 : Nat := r4.1
    let l6 : List T := r4.2.1
    let i7 : Int := r4.2.2
    some (i7, n5, l6)
def sg_li : Sig (Nat × List T × Int) where
  pk := fun v => [.lst v.1 v.2.1, .int v.2.2]
  up := fun ls => match ls with
    | [.lst a0 a1, .int a2] => some (a0, a1, a2)
    | _ => none
  ok := by
    intro ls v h
    split at h
    · cases h; rfl
    · cases h

def sg_il : Sig (Int × Nat × List T) where
  pk := fun v => [.int v.1, .lst v.2.1 v.2.2]
  up := fun ls => match ls with
    | [.int a0, .lst a1 a2] => some (a0, a1, a2)
    | _ => none
  ok := by
    intro ls v h
    split at h
    · cases h; rfl
    · cases h

def f25_l_markFloat32S.l0.P : AS := ⟨[(0, .val false [.sl .own [.leaf]] [.lst 0 []] [] 1), (1, .val false [.leaf] [.int .i64 0] [] 0), (5, .val false [.leaf] [.int .i64 0] [] 0)], 0⟩
def f25_l_markFloat32S.l0.A : Alt (Nat × List T × Int) := .one (.exit 0) ⟨[(0, .val false [.sl .own [.leaf]] [.lst 0 []] [] 1), (1, .val false [.leaf] [.int .i64 0] [] 0)], 0⟩ sg_li
def f25_l_markFloat32S.l0.F (n m : Nat) (v : Nat × List T × Int × Int) := f25_l_markFloat32S.l0 n m v.1 v.2.1 v.2.2.1 v.2.2.2
def f25_l_markFloat32S.l0.W (n : Nat) : LpW := .of 32 f25_l_markFloat32S.l0.P sg_lii f25_l_markFloat32S.l0.A (f25_l_markFloat32S.l0.F n n)
def f25_l_markFloat32S.P : List Arg := [⟨.io, ⟨false, [.sl .own [.leaf]], [.lst 0 []]⟩⟩, ⟨.val, ⟨false, [.leaf], [.int .i64 0]⟩⟩]
def f25_l_markFloat32S.A : RAlt (Int × Nat × List T) := .one ⟨[⟨false, [.leaf], [.int .i64 0]⟩], [some ⟨false, [.sl .own [.leaf]], [.lst 0 []]⟩, none]⟩ sg_il
def f25_l_markFloat32S.F (n : Nat) (v : Nat × List T × Int) := f25_l_markFloat32S n v.1 v.2.1 v.2.2
noncomputable def f25_l_markFloat32S.O (n : Nat) : Orc := orcOf (E := E) [] [f25_l_markFloat32S.l0.W n] n
theorem f25_l_markFloat32S.l0.ok (n : Nat) : LpOk (f25_l_markFloat32S.O n) E (evalFn E n) n (keepAt 25) (.loop (loopAt c25 0)) :=
  lp_pure f25_l_markFloat32S.l0.P sg_lii f25_l_markFloat32S.l0.A (f25_l_markFloat32S.l0.F n) (orcOf_cf _ _ n) (lpOk_of (bs := []) (by kernel_rfl) .nil) (fun _ => rfl) (fun _ _ => by kernel_rfl) (fun _ _ _ => by kernel_rfl)
theorem f25_l_markFloat32S.ok : ∀ n v x, f25_l_markFloat32S.F n v = some x → evalFn E n 25 (flAs f25_l_markFloat32S.P (sg_li.pk v)) = some (f25_l_markFloat32S.A.enc x) :=
  fn_pure (modes := (fdAt 25).ms) (outs := (fdAt 25).os) (results := (fdAt 25).rs) f25_l_markFloat32S.O (c := c25) (keep := keepAt 25) (by kernel_rfl) (fun n => orcOf_cf _ _ n) (fun n => lpOk_of (bs := [loopAt c25 0]) (by kernel_rfl) (.cons (f25_l_markFloat32S.l0.ok n) .nil)) (fun _ => rfl) (fun _ _ => by kernel_rfl)
noncomputable def f25_l_markFloat32S.w : FnW E := fnW 25 f25_l_markFloat32S.P sg_li f25_l_markFloat32S.A f25_l_markFloat32S.F f25_l_markFloat32S.ok

def f26_l_heldFloat32S.l0 (n : Nat) : Nat → Nat → List T → Int → Int → Option ((Int) ⊕ (Int))
  | 0, _, _, _, _ => none
  | m + 1, n1, l2, i3, i4 =>
    br (decide (i4 < ((n1 : Nat) : Int))) (
     gd ((decide (((0 : Int) ≤ i4) ∧ (i4 < ((n1 : Nat) : Int)))) && (okAt [(CK.flt FloatKind.f32)] l2 (Int.toNat i4))) (
     br (fne FloatKind.f32 (fAt l2 (Int.toNat i4)) (FloatKind.nearest FloatKind.f32 i3)) (
      some (Sum.inl (-1 : Int))) (
      let i5 : Int := (IntKind.i64.wrap (i3 + (1 : Int)))
      f26_l_heldFloat32S.l0 n m n1 l2 i5 (IntKind.i64.wrap (i4 + (1 : Int)))))) (
     some (Sum.inr i3))
def f26_l_heldFloat32S : Nat → Nat → List T → Int → Option (Int)
  | 0, _, _, _ => none
  | n + 1, n1, l2, i3 =>
    bd (f26_l_heldFloat32S.l0 n n n1 l2 i3 (0 : Int)) fun r4 =>
    sm r4 (fun u5 =>
     let i6 : Int := u5
     some i6) (fun u7 =>
     let i8 : Int := u7
     some i8)
def sg_i : Sig (Int) where
  pk := fun v => [.int v]
  up := fun ls => match ls with
    | [.int a0] => some a0
    | _ => none
  ok := by
    intro ls v h
    split at h
    · cases h; rfl
    · cases h

def f26_l_heldFloat32S.l0.P : AS := ⟨[(0, .val false [.sl .shr [.leaf]] [.lst 0 []] [] 0), (1, .val false [.leaf] [.int .i64 0] [] 0), (5, .val false [.leaf] [.int .i64 0] [] 0)], 0⟩
def f26_l_heldFloat32S.l0.A : Alt ((Int) ⊕ (Int)) := .or (.one .ret ⟨[(1, .dead), (4, .val false [.leaf] [.int .i64 0] [] 0)], 0⟩ sg_i) (.one (.exit 0) ⟨[(1, .val false [.leaf] [.int .i64 0] [] 0), (4, .dead)], 0⟩ sg_i)
def f26_l_heldFloat32S.l0.F (n m : Nat) (v : Nat × List T × Int × Int) := f26_l_heldFloat32S.l0 n m v.1 v.2.1 v.2.2.1 v.2.2.2
def f26_l_heldFloat32S.l0.W (n : Nat) : LpW := .of 32 f26_l_heldFloat32S.l0.P sg_lii f26_l_heldFloat32S.l0.A (f26_l_heldFloat32S.l0.F n n)
def f26_l_heldFloat32S.P : List Arg := [⟨.val, ⟨false, [.sl .shr [.leaf]], [.lst 0 []]⟩⟩, ⟨.val, ⟨false, [.leaf], [.int .i64 0]⟩⟩]
def f26_l_heldFloat32S.A : RAlt (Int) := .one ⟨[⟨false, [.leaf], [.int .i64 0]⟩], [none, none]⟩ sg_i
def f26_l_heldFloat32S.F (n : Nat) (v : Nat × List T × Int) := f26_l_heldFloat32S n v.1 v.2.1 v.2.2
noncomputable def f26_l_heldFloat32S.O (n : Nat) : Orc := orcOf (E := E) [] [f26_l_heldFloat32S.l0.W n] n
theorem f26_l_heldFloat32S.l0.ok (n : Nat) : LpOk (f26_l_heldFloat32S.O n) E (evalFn E n) n (keepAt 26) (.loop (loopAt c26 0)) :=
  lp_pure f26_l_heldFloat32S.l0.P sg_lii f26_l_heldFloat32S.l0.A (f26_l_heldFloat32S.l0.F n) (orcOf_cf _ _ n) (lpOk_of (bs := []) (by kernel_rfl) .nil) (fun _ => rfl) (fun _ _ => by kernel_rfl) (fun _ _ _ => by kernel_rfl)
theorem f26_l_heldFloat32S.ok : ∀ n v x, f26_l_heldFloat32S.F n v = some x → evalFn E n 26 (flAs f26_l_heldFloat32S.P (sg_li.pk v)) = some (f26_l_heldFloat32S.A.enc x) :=
  fn_pure (modes := (fdAt 26).ms) (outs := (fdAt 26).os) (results := (fdAt 26).rs) f26_l_heldFloat32S.O (c := c26) (keep := keepAt 26) (by kernel_rfl) (fun n => orcOf_cf _ _ n) (fun n => lpOk_of (bs := [loopAt c26 0]) (by kernel_rfl) (.cons (f26_l_heldFloat32S.l0.ok n) .nil)) (fun _ => rfl) (fun _ _ => by kernel_rfl)
noncomputable def f26_l_heldFloat32S.w : FnW E := fnW 26 f26_l_heldFloat32S.P sg_li f26_l_heldFloat32S.A f26_l_heldFloat32S.F f26_l_heldFloat32S.ok

def f6_l_FnExactWindowPowers : Nat → Nat → List T → Int → Int → Option (Bool)
  | 0, _, _, _, _ => none
  | n + 1, n1, l2, i3, i4 =>
    br (decide (((n1 : Nat) : Int) > (1048576 : Int))) (
     some true) (
     bd (f10_l_toFloat32S n n1 l2) fun r5 =>
     let n6 : Nat := r5.1
     let l7 : List T := r5.2
     bd (f23_s_WindowPowers n n6 l7 i3 i4) fun r8 =>
     let n9 : Nat := r8.1
     let l10 : List T := r8.2.1
     let b11 : Bool := r8.2.2
     bd (f10_l_toFloat32S n n1 l2) fun r12 =>
     let n13 : Nat := r12.1
     let l14 : List T := r12.2
     bd (f24_i_WindowPowers n n13 l14 i3 i4) fun r15 =>
     let n16 : Nat := r15.1
     let l17 : List T := r15.2.1
     let b18 : Bool := r15.2.2
     bd (f12_l_eqFloat32S n n16 l17 n9 l10) fun r19 =>
     let b20 : Bool := r19
     br (!b20) (
      some false) (
      br (!(b18 == b11)) (
       some false) (
       bd (f10_l_toFloat32S n n1 l2) fun r21 =>
       let n22 : Nat := r21.1
       let l23 : List T := r21.2
       bd (f12_l_eqFloat32S n n13 l14 n22 l23) fun r24 =>
       let b25 : Bool := r24
       br (!b25) (
        some false) (
        bd (f25_l_markFloat32S n n13 l14 (1 : Int)) fun r26 =>
        let i27 : Int := r26.1
        let n28 : Nat := r26.2.1
        let l29 : List T := r26.2.2
        br (decide (i27 < (0 : Int))) (
         some false) (
         bd (f12_l_eqFloat32S n n16 l17 n9 l10) fun r30 =>
         let b31 : Bool := r30
         br (!b31) (
          some false) (
          br (!(b18 == b11)) (
           some false) (
           bd (f25_l_markFloat32S n n16 l17 (1 : Int)) fun r32 =>
           let i33 : Int := r32.1
           let n34 : Nat := r32.2.1
           let l35 : List T := r32.2.2
           bd (f26_l_heldFloat32S n n34 l35 (1 : Int)) fun r36 =>
           let i37 : Int := r36
           br (decide (i37 < (0 : Int))) (
            some false) (
            br (i37 != i33) (
             some false) (
             bd (f10_l_toFloat32S n n1 l2) fun r38 =>
             let n39 : Nat := r38.1
             let l40 : List T := r38.2
             bd (f24_i_WindowPowers n n39 l40 i3 i4) fun r41 =>
             let n42 : Nat := r41.1
             let l43 : List T := r41.2.1
             let b44 : Bool := r41.2.2
             bd (f12_l_eqFloat32S n n42 l43 n9 l10) fun r45 =>
             let b46 : Bool := r45
             br (!b46) (
              some false) (
              br (!(b44 == b11)) (
               some false) (
               bd (f26_l_heldFloat32S n n34 l35 (1 : Int)) fun r47 =>
               let i48 : Int := r47
               br (decide (i48 < (0 : Int))) (
                some false) (
                br (i48 != i33) (
                 some false) (
                 some true)))))))))))))
def f6_l_FnExactWindowPowers.P : List Arg := [⟨.val, ⟨false, [.sl .shr [.leaf]], [.lst 0 []]⟩⟩, ⟨.val, ⟨false, [.leaf], [.int .i64 0]⟩⟩, ⟨.val, ⟨false, [.leaf], [.int .i64 0]⟩⟩]
def f6_l_FnExactWindowPowers.A : RAlt (Bool) := .one ⟨[⟨false, [.leaf], [.bool false]⟩], [none, none, none]⟩ sg_b
def f6_l_FnExactWindowPowers.F (n : Nat) (v : Nat × List T × Int × Int) := f6_l_FnExactWindowPowers n v.1 v.2.1 v.2.2.1 v.2.2.2
noncomputable def f6_l_FnExactWindowPowers.O (n : Nat) : Orc := orcOf (E := E) [f10_l_toFloat32S.w, f23_s_WindowPowers.w, f24_i_WindowPowers.w, f12_l_eqFloat32S.w, f25_l_markFloat32S.w, f26_l_heldFloat32S.w] [] n
theorem f6_l_FnExactWindowPowers.ok : ∀ n v x, f6_l_FnExactWindowPowers.F n v = some x → evalFn E n 6 (flAs f6_l_FnExactWindowPowers.P (sg_lii.pk v)) = some (f6_l_FnExactWindowPowers.A.enc x) :=
  fn_pure (modes := (fdAt 6).ms) (outs := (fdAt 6).os) (results := (fdAt 6).rs) f6_l_FnExactWindowPowers.O (c := c6) (keep := keepAt 6) (by kernel_rfl) (fun n => orcOf_cf _ _ n) (fun n => lpOk_of (bs := []) (by kernel_rfl) .nil) (fun _ => rfl) (fun _ _ => by kernel_rfl)
noncomputable def f6_l_FnExactWindowPowers.w : FnW E := fnW 6 f6_l_FnExactWindowPowers.P sg_lii f6_l_FnExactWindowPowers.A f6_l_FnExactWindowPowers.F f6_l_FnExactWindowPowers.ok
end Go.Proofs.Ytcadjmbpmbdliaa.D
end
section
/- FnExactWindowPowers, in plain Lean. -/
namespace Go.Proofs.Ytcadjmbpmbdliaa.D
open Go Go.Desk
set_option linter.unusedVariables false
/-- a copy in single precision -/
theorem copy_loop (n : Nat) (xs : List Nat) (hx : xs.length ≤ 1048576) : ∀ (j i m : Nat) (ys : List Nat), ys.length = xs.length → i + j = xs.length → j < m →
    f10_l_toFloat32S.l0 n m xs.length (fls .f32 xs) xs.length (fls .f32 (xs.take i ++ ys.drop i)) (i : Int) = some (xs.length, fls .f32 xs) := by
  intro j
  induction j with
  | zero =>
    intro i m ys hl hi hm
    obtain ⟨m, rfl⟩ : ∃ k, m = k + 1 := ⟨m - 1, by omega⟩
    rw [f10_l_toFloat32S.l0, nlt_dec (by omega)]
    simp only [br]
    rw [List.take_of_length_le (by omega), List.drop_eq_nil_of_le (by omega), List.append_nil]
  | succ j ih =>
    intro i m ys hl hi hm
    obtain ⟨m, rfl⟩ : ∃ k, m = k + 1 := ⟨m - 1, by omega⟩
    have hlt : i < xs.length := by omega
    rw [f10_l_toFloat32S.l0, lt_dec hlt, in_dec hlt, Int.toNat_natCast, okAt_fls hlt, wrap_succ (by omega)]
    have hlen : Nat.ble (i + 1) (fls .f32 (xs.take i ++ ys.drop i)).length = true := by
      rw [Nat.ble_eq, fls_length]; simp; omega
    rw [hlen]
    simp only [br, gd, Bool.and_self]
    rw [setN_one, fAt_fls, set_fls]
    have : xs.getD i 0 = xs[i] := by simp [List.getD, hlt]
    rw [this, take_set_drop hlt hl]
    exact ih (i + 1) m ys hl (by omega) (by omega)

theorem copied (n : Nat) (xs : List Nat) (hx : xs.length ≤ 1048576) (hn : xs.length < n) : f10_l_toFloat32S (n + 1) xs.length (fls .f32 xs) = some (xs.length, fls .f32 xs) := by
  rw [f10_l_toFloat32S]
  have h := copy_loop n xs hx xs.length 0 n (List.replicate xs.length 0) (by simp) (by omega) hn
  rw [List.take_zero, List.drop_zero, List.nil_append] at h
  have e : decide ((0 : Int) ≤ ((xs.length : Nat) : Int) ∧ ((xs.length : Nat) : Int) ≤ (2147483648 : Int)) = true := by simp; omega
  rw [reps_fls, e]
  simp only [gd]
  rw [show ((0 : Nat) : Int) = 0 from rfl] at h
  rw [h]; rfl

theorem same_self (n y : Nat) : f15_l_sameFloat (n + 1) y y = some true := by
  unfold f15_l_sameFloat
  simp only [fne_feq]
  cases h : feq FloatKind.f64 y y
  · simp [br]
  · cases h0 : feq FloatKind.f64 y 0 <;> simp [br]

/-- equal to itself -/
theorem eq_loop (n : Nat) (xs : List Nat) (hx : xs.length ≤ 2147483648) : ∀ (j i m : Nat), i + j = xs.length → j < m →
    f12_l_eqFloat32S.l0 (n + 1) m xs.length (fls .f32 xs) xs.length (fls .f32 xs) (i : Int) = some (Sum.inr ()) := by
  intro j
  induction j with
  | zero =>
    intro i m hi hm
    obtain ⟨m, rfl⟩ : ∃ k, m = k + 1 := ⟨m - 1, by omega⟩
    rw [f12_l_eqFloat32S.l0, nlt_dec (by omega)]
    rfl
  | succ j ih =>
    intro i m hi hm
    obtain ⟨m, rfl⟩ : ∃ k, m = k + 1 := ⟨m - 1, by omega⟩
    have hlt : i < xs.length := by omega
    rw [f12_l_eqFloat32S.l0, lt_dec hlt, in_dec hlt, Int.toNat_natCast, okAt_fls hlt, wrap_succ (by omega), fltToFlt_wide]
    simp only [br, gd, bd, Bool.and_self, same_self, Bool.not_true]
    exact ih (i + 1) m (by omega) (by omega)

theorem eq_self (n : Nat) (xs : List Nat) (hx : xs.length ≤ 2147483648) (hn : xs.length < n + 1) : f12_l_eqFloat32S (n + 2) xs.length (fls .f32 xs) xs.length (fls .f32 xs) = some true := by
  rw [f12_l_eqFloat32S]
  have h := eq_loop n xs hx xs.length 0 (n + 1) (by omega) hn
  rw [show ((0 : Nat) : Int) = 0 from rfl] at h
  rw [h, show (((xs.length : Nat) : Int) != ((xs.length : Nat) : Int)) = false by simp]
  rfl

/-- both dots alike -/
theorem dot_loop (n n' : Nat) (xs ys : List Nat) (hl : ys.length = xs.length) (hx : xs.length ≤ 2147483648) : ∀ (j i m m' s : Nat), i + j = xs.length → j < m → j < m' →
    ∃ r, f53_s_l01Dot.l0 n m xs.length (fls .f32 xs) ys.length (fls .f32 ys) s (i : Int) = some r ∧ f52_i_dot.l0 n' m' xs.length (fls .f32 xs) ys.length (fls .f32 ys) s (xs.length : Int) (i : Int) = some r := by
  intro j
  induction j with
  | zero =>
    intro i m m' s hi hm hm'
    obtain ⟨m, rfl⟩ : ∃ k, m = k + 1 := ⟨m - 1, by omega⟩
    obtain ⟨m', rfl⟩ : ∃ k, m' = k + 1 := ⟨m' - 1, by omega⟩
    refine ⟨s, ?_, ?_⟩
    · rw [f53_s_l01Dot.l0, nlt_dec (by omega)]; rfl
    · rw [f52_i_dot.l0, nlt_dec (by omega)]; rfl
  | succ j ih =>
    intro i m m' s hi hm hm'
    obtain ⟨m, rfl⟩ : ∃ k, m = k + 1 := ⟨m - 1, by omega⟩
    obtain ⟨m', rfl⟩ : ∃ k, m' = k + 1 := ⟨m' - 1, by omega⟩
    have hlt : i < xs.length := by omega
    have hlt' : i < ys.length := by omega
    rw [f53_s_l01Dot.l0, f52_i_dot.l0, lt_dec hlt, in_dec hlt, in_dec hlt', Int.toNat_natCast, okAt_fls hlt, okAt_fls hlt', wrap_succ (by omega)]
    simp only [gd, br, Bool.and_self]
    exact ih (i + 1) m m' _ (by omega) (by omega) (by omega)
theorem dots (n n' : Nat) (xs ys : List Nat) (hl : ys.length = xs.length) (hx : xs.length ≤ 2147483648) (hn : xs.length < n) (hn' : xs.length < n') :
    ∃ r, f53_s_l01Dot (n + 1) xs.length (fls .f32 xs) ys.length (fls .f32 ys) = some r ∧ f52_i_dot (n' + 1) xs.length (fls .f32 xs) ys.length (fls .f32 ys) = some r := by
  obtain ⟨r, h1, h2⟩ := dot_loop n n' xs ys hl hx xs.length 0 n n' 0 (by omega) hn hn'
  refine ⟨r, ?_, ?_⟩
  · rw [f53_s_l01Dot, show (0 : Int) = ((0 : Nat) : Int) from rfl, h1]; rfl
  · rw [f52_i_dot, show (0 : Int) = ((0 : Nat) : Int) from rfl, h2]; rfl

theorem s_in (n : Nat) (a b c : Int) : f36_s_l00In (n + 1) a b c = some (decide (b ≤ a ∧ a ≤ c)) := by
  rw [f36_s_l00In]
  by_cases h : b ≤ a <;> simp [br, h]
theorem i_in (n : Nat) (a b c : Int) : f39_i_within (n + 1) a b c = some (decide (b ≤ a ∧ a ≤ c)) := by
  rw [f39_i_within]
  by_cases h : b ≤ a <;> simp [br, h]

theorem s_few (n k : Nat) (l : List T) : f34_s_l01Few (n + 1) k l = some (decide ((k : Int) ≤ 256)) := by rw [f34_s_l01Few]
theorem i_few (n k : Nat) (l : List T) : f35_i_areSamples (n + 1) k l = some (decide ((k : Int) ≤ 256)) := by rw [f35_i_areSamples]

/-- numbers are counted into a slice -/
theorem mark32_loop (n : Nat) (xs : List Nat) (hx : xs.length ≤ 2147483648) (s : Int) (hs : 0 ≤ s) (hs' : s ≤ 1099511627776) : ∀ (j i m : Nat), i + j = xs.length → j < m →
    f25_l_markFloat32S.l0 n m xs.length (fls .f32 ((marksF .f32 s xs.length).take i ++ xs.drop i)) (s + (i : Int)) (i : Int) = some (xs.length, fls .f32 (marksF .f32 s xs.length), s + (xs.length : Int)) := by
  intro j
  induction j with
  | zero =>
    intro i m hi hm
    obtain ⟨m, rfl⟩ : ∃ k, m = k + 1 := ⟨m - 1, by omega⟩
    have hi : i = xs.length := by omega
    subst hi
    rw [f25_l_markFloat32S.l0, nlt_dec (by omega)]
    simp only [br]
    rw [List.take_of_length_le (by rw [marksF_length]; omega), List.drop_eq_nil_of_le (by omega), List.append_nil]
  | succ j ih =>
    intro i m hi hm
    obtain ⟨m, rfl⟩ : ∃ k, m = k + 1 := ⟨m - 1, by omega⟩
    have hlt : i < xs.length := by omega
    have hlt' : i < (marksF .f32 s xs.length).length := by rw [marksF_length]; exact hlt
    have hlen : Nat.ble (i + 1) (fls .f32 ((marksF .f32 s xs.length).take i ++ xs.drop i)).length = true := by
      apply le_ble
      rw [fls_length, List.length_append, List.length_take, List.length_drop, marksF_length]; omega
    rw [f25_l_markFloat32S.l0, lt_dec hlt, in_dec hlt, Int.toNat_natCast, wrap_succ (by omega), hlen]
    simp only [br, gd]
    rw [setN_one, set_fls, show IntKind.i64.wrap (s + (i : Int) + 1) = s + ((i + 1 : Nat) : Int) by rw [wrap64] <;> omega, ← marksF_at hlt', take_set_drop hlt' (by rw [marksF_length])]
    exact ih (i + 1) m (by omega) (by omega)
theorem mark32 (n : Nat) (xs : List Nat) (hx : xs.length ≤ 2147483648) (s : Int) (hs : 0 ≤ s) (hs' : s ≤ 1099511627776) (hn : xs.length < n) :
    f25_l_markFloat32S (n + 1) xs.length (fls .f32 xs) s = some (s + (xs.length : Int), xs.length, fls .f32 (marksF .f32 s xs.length)) := by
  rw [f25_l_markFloat32S]
  have h := mark32_loop n xs hx s hs hs' xs.length 0 n (by omega) hn
  rw [List.take_zero, List.drop_zero, List.nil_append, show ((0 : Nat) : Int) = 0 from rfl, Int.add_zero] at h
  rw [h]; rfl

/-- counted numbers are held -/
theorem held32_loop (n l : Nat) (hx : l ≤ 2147483648) (s : Int) (hs : 0 ≤ s) (hs' : s ≤ 1099511627776) : ∀ (j i m : Nat), i + j = l → j < m →
    f26_l_heldFloat32S.l0 n m l (fls .f32 (marksF .f32 s l)) (s + (i : Int)) (i : Int) = some (Sum.inr (s + (l : Int))) := by
  intro j
  induction j with
  | zero =>
    intro i m hi hm
    obtain ⟨m, rfl⟩ : ∃ k, m = k + 1 := ⟨m - 1, by omega⟩
    have hi : i = l := by omega
    subst hi
    rw [f26_l_heldFloat32S.l0, nlt_dec (by omega)]
    rfl
  | succ j ih =>
    intro i m hi hm
    obtain ⟨m, rfl⟩ : ∃ k, m = k + 1 := ⟨m - 1, by omega⟩
    have hlt : i < l := by omega
    rw [f26_l_heldFloat32S.l0, lt_dec hlt, in_dec hlt, Int.toNat_natCast, wrap_succ (by omega), okAt_fls (by rw [marksF_length]; exact hlt), fAt_fls, marksF_get hlt, nearest_fne,
      show IntKind.i64.wrap (s + (i : Int) + 1) = s + ((i + 1 : Nat) : Int) by rw [wrap64] <;> omega]
    simp only [br, gd, Bool.and_self]
    exact ih (i + 1) m (by omega) (by omega)
theorem held32 (n l : Nat) (hx : l ≤ 2147483648) (s : Int) (hs : 0 ≤ s) (hs' : s ≤ 1099511627776) (hn : l < n) :
    f26_l_heldFloat32S (n + 1) l (fls .f32 (marksF .f32 s l)) s = some (s + (l : Int)) := by
  rw [f26_l_heldFloat32S]
  have h := held32_loop n l hx s hs hs' l 0 n (by omega) hn
  rw [show ((0 : Nat) : Int) = 0 from rfl, Int.add_zero] at h
  rw [h]; rfl

theorem take_fls (k : FloatKind) (xs : List Nat) (i : Nat) : (fls k xs).take i = fls k (xs.take i) := by simp [fls, List.map_take]
theorem drop_fls (k : FloatKind) (xs : List Nat) (i : Nat) : (fls k xs).drop i = fls k (xs.drop i) := by simp [fls, List.map_drop]
/-- both windows alike -/
theorem win_loop (n n' : Nat) (xs : List Nat) (hx : xs.length ≤ 256) (w h : Nat) (hw : 1 ≤ w ∧ w ≤ 256) (hh : 1 ≤ h ∧ h ≤ 256) (hn : xs.length < n) (hn' : xs.length < n') : ∀ (j i m m' : Nat) (acc : List Nat), acc.length ≤ i → i ≤ xs.length + h → xs.length + 1 ≤ i + j → j < m → j < m' →
    ∃ ys, ys.length ≤ xs.length + 257 ∧ f51_s_l10Powers.l0 (n + 1) m xs.length (fls .f32 xs) (w : Int) (h : Int) acc.length (fls .f32 acc) (i : Int) = some (ys.length, fls .f32 ys) ∧
      f24_i_WindowPowers.l0 (n' + 1) m' xs.length (fls .f32 xs) (w : Int) (h : Int) acc.length (fls .f32 acc) (i : Int) = some (ys.length, fls .f32 ys) := by
  intro j
  induction j with
  | zero =>
    intro i m m' acc ha hi0 hi hm hm'
    obtain ⟨m, rfl⟩ : ∃ k, m = k + 1 := ⟨m - 1, by omega⟩
    obtain ⟨m', rfl⟩ : ∃ k, m' = k + 1 := ⟨m' - 1, by omega⟩
    have e : decide (IntKind.i64.wrap ((i : Int) + (w : Int)) ≤ (xs.length : Int)) = false := by rw [wrap64] <;> first | omega | (simp; omega)
    refine ⟨acc, by omega, ?_, ?_⟩
    · rw [f51_s_l10Powers.l0, e]; rfl
    · rw [f24_i_WindowPowers.l0, e]; rfl
  | succ j ih =>
    intro i m m' acc ha hi0 hi hm hm'
    obtain ⟨m, rfl⟩ : ∃ k, m = k + 1 := ⟨m - 1, by omega⟩
    obtain ⟨m', rfl⟩ : ∃ k, m' = k + 1 := ⟨m' - 1, by omega⟩
    have e : IntKind.i64.wrap ((i : Int) + (w : Int)) = ((i + w : Nat) : Int) := by rw [wrap64] <;> omega
    rw [f51_s_l10Powers.l0, f24_i_WindowPowers.l0, e]
    by_cases hc : i + w ≤ xs.length
    case neg =>
      rw [decide_eq_false (show ¬ (((i + w : Nat) : Int) ≤ (xs.length : Int)) by omega)]
      exact ⟨acc, by omega, rfl, rfl⟩
    rw [decide_eq_true (show ((i + w : Nat) : Int) ≤ (xs.length : Int) by omega), decide_eq_true (show (0 : Int) ≤ (i : Int) ∧ (i : Int) ≤ ((i + w : Nat) : Int) ∧ ((i + w : Nat) : Int) ≤ (xs.length : Int) by omega),
      Int.toNat_natCast, Int.toNat_natCast, show IntKind.i64.wrap ((i : Int) + (h : Int)) = ((i + h : Nat) : Int) by rw [wrap64] <;> omega, le_ble (show acc.length + 1 ≤ 2147483648 by omega), show i + w - i = w by omega]
    rw [drop_fls, take_fls]
    have hl : ((xs.drop i).take w).length = w := by rw [List.length_take, List.length_drop]; omega
    obtain ⟨r, e1, e2⟩ := dots n n' ((xs.drop i).take w) ((xs.drop i).take w) rfl (by omega) (by omega) (by omega)
    rw [hl] at e1 e2
    simp only [br, gd, bd, e1, e2]
    have := ih (i + h) m m' (acc ++ [fdiv FloatKind.f32 r (FloatKind.nearest FloatKind.f32 (w : Int))]) (by simp; omega) (by omega) (by omega) (by omega) (by omega)
    simpa [fls, setN, reps] using this

theorem both (n n' : Nat) (xs : List Nat) (a b : Int) (hn : xs.length < n) (hn' : xs.length < n') (hx : xs.length ≤ 1048576) :
    ∃ ys c, ys.length ≤ xs.length + 257 ∧ f23_s_WindowPowers (n + 4) xs.length (fls .f32 xs) a b = some (ys.length, fls .f32 ys, c) ∧ f24_i_WindowPowers (n' + 4) xs.length (fls .f32 xs) a b = some (ys.length, fls .f32 ys, c) := by
  rw [f23_s_WindowPowers, f24_i_WindowPowers, f50_s_l10Windows]
  simp only [s_few, i_few, s_in, i_in, bd]
  by_cases h0 : (xs.length : Int) ≤ 256
  case neg => rw [decide_eq_false h0]; exact ⟨[], false, by simp, rfl, rfl⟩
  rw [decide_eq_true h0]
  by_cases h1 : 1 ≤ a ∧ a ≤ 256
  case neg => rw [decide_eq_false h1]; exact ⟨[], false, by simp, rfl, rfl⟩
  rw [decide_eq_true h1]
  by_cases h2 : 1 ≤ b ∧ b ≤ 256
  case neg => rw [decide_eq_false h2]; exact ⟨[], false, by simp, rfl, rfl⟩
  rw [decide_eq_true h2]
  obtain ⟨w, rfl⟩ := Int.eq_ofNat_of_zero_le (show 0 ≤ a by omega)
  obtain ⟨h, rfl⟩ := Int.eq_ofNat_of_zero_le (show 0 ≤ b by omega)
  obtain ⟨ys, hl, e1, e2⟩ := win_loop (n + 1) (n' + 2) xs (by omega) w h (by omega) (by omega) (by omega) (by omega) (xs.length + 1) 0 (n + 2) (n' + 3) [] (by simp) (by omega) (by omega) (by omega) (by omega)
  refine ⟨ys, true, hl, ?_, ?_⟩
  · have e1 : f51_s_l10Powers.l0 (n + 2) (n + 2) xs.length (fls .f32 xs) (w : Int) (h : Int) 0 (reps 0 [(T.flt FloatKind.f32 0)]) (0 : Int) = some (ys.length, fls .f32 ys) := e1
    simp only [br, Bool.not_true]
    rw [f51_s_l10Powers, e1]; rfl
  · have e2 : f24_i_WindowPowers.l0 (n' + 3) (n' + 3) xs.length (fls .f32 xs) (w : Int) (h : Int) 0 [] (0 : Int) = some (ys.length, fls .f32 ys) := e2
    simp only [br, Bool.not_true, e2]

theorem exact_ (xs : List Nat) (hg : ∀ x ∈ xs, GoodF .f32 x) (hl : xs.length ≤ maxLen) (a : Int) (ha : GoodI .i64 a) (b : Int) (hb : GoodI .i64 b) : ∃ n, f6_l_FnExactWindowPowers n xs.length (fls .f32 xs) a b = some true := by
  refine ⟨xs.length + 600, ?_⟩
  rw [f6_l_FnExactWindowPowers]
  cases h : decide (((xs.length : Nat) : Int) > (1048576 : Int))
  · have hx : xs.length ≤ 1048576 := by simp at h; omega
    obtain ⟨ys, c, hy, h1, h2⟩ := both (xs.length + 595) (xs.length + 595) xs a b (by omega) (by omega) hx
    simp only [br, copied (xs.length + 598) xs hx (by omega), bd, h1, h2, beq_self_eq_true, Bool.not_true, eq_self (xs.length + 597) xs (by omega) (by omega), eq_self (xs.length + 597) ys (by omega) (by omega),
      mark32 (xs.length + 598) xs (by omega) 1 (by omega) (by omega) (by omega), mark32 (xs.length + 598) ys (by omega) 1 (by omega) (by omega) (by omega), held32 (xs.length + 598) ys.length (by omega) 1 (by omega) (by omega) (by omega),
      bne_self_eq_false, decide_eq_false (show ¬ ((1 : Int) + (xs.length : Int) < 0) by omega), decide_eq_false (show ¬ ((1 : Int) + (ys.length : Int) < 0) by omega)]
  · rfl
theorem law6 : ∀ args, LawArgs E Try.f6.params.toList args → ∃ N os, evalFn E N 6 args = some ⟨[⟨false, [.leaf], [.bool true]⟩], os⟩ := by
  intro args h0
  have hp : Try.f6.params.toList = [22, 2, 2] := by kernel_rfl
  rw [hp] at h0
  obtain ⟨ts0, r0, rfl, hw0, h1⟩ := h0.cons_inv (d := ⟨false, 1, 24, [.sl .own [.leaf]], [.lst 0 []], .slc 28⟩) (by kernel_rfl)
  obtain ⟨n0, cs0, rfl, gl0, hs0⟩ := hw0.slc_inv (e := 28) (d := ⟨false, 1, 24, [.sl .own [.leaf]], [.lst 0 []], .slc 28⟩) (by kernel_rfl) rfl
  obtain ⟨a0, rfl, rfl, g0⟩ := hs0.flts (k := .f32) (d := ⟨false, 1, 4, [.leaf], [.flt .f32 0], .flt .f32⟩) (by kernel_rfl) rfl
  obtain ⟨ts1, r1, rfl, hw1, h2⟩ := h1.cons_inv (d := ⟨false, 1, 8, [.leaf], [.int .i64 0], .int .i64⟩) (by kernel_rfl)
  obtain ⟨a1, rfl, g1⟩ := hw1.int_inv (k := .i64) (d := ⟨false, 1, 8, [.leaf], [.int .i64 0], .int .i64⟩) (by kernel_rfl) rfl
  obtain ⟨ts2, r2, rfl, hw2, h3⟩ := h2.cons_inv (d := ⟨false, 1, 8, [.leaf], [.int .i64 0], .int .i64⟩) (by kernel_rfl)
  obtain ⟨a2, rfl, g2⟩ := hw2.int_inv (k := .i64) (d := ⟨false, 1, 8, [.leaf], [.int .i64 0], .int .i64⟩) (by kernel_rfl) rfl
  obtain rfl := h3.nil_inv
  obtain ⟨N, hN⟩ := exact_ a0 g0 gl0 a1 g1 a2 g2
  exact ⟨N, _, f6_l_FnExactWindowPowers.ok N (a0.length, fls .f32 a0, a1, a2) true hN⟩


end Go.Proofs.Ytcadjmbpmbdliaa.D
end
section
/- FnExactWindowPowers holds: for every input the law returns true, and its arguments read as before. -/
namespace Go.Proofs.Ytcadjmbpmbdliaa.fnExactWindowPowers
open Go Go.ChangeShapes Go.WideShapes Go.ChangeAt Go.RowKit Go.Desk
set_option linter.unusedVariables false
theorem own : ownKnob Try.prog.godebug = none := by kernel_rfl
theorem laidOut : laidOutB Try.prog = true := by kernel_rfl
set_option maxRecDepth 100000 in
theorem lifted (os : Os) (started : os.Started) (H : Type) (enc : TypeId × Value → H) :
    ReturnsInHanded {} Try.checked os 6 .any (Rows.fnExactWindowPowersSpec.pre6 enc Try.prog Try.f6 Rows.fnExactWindowPowersRow.domain false) (Rows.fnExactWindowPowersSpec.post enc Try.prog Try.f6 false true false false) := by
  refine returnsInHanded_of_change (C := Try.checked) own started (by kernel_rfl) Try.func6
    (ChangeSpec.witness6 (enc := enc) (C := Try.checked) false ⟨#[], #[.slice none 0 0, .int .i64 0, .int .i64 0], []⟩ 8 (by kernel_rfl) (by kernel_rfl) (by kernel_rfl) (by kernel_rfl)) ?_
  intro W base args ds gs before hval hW hcnd _
  exact law_contract (c := D.c6) Try.checked.mixed D.tysOk D.fnOk Try.func6 (by kernel_rfl) (by kernel_rfl) (by kernel_rfl) Try.underlying4 rfl
    (fun ds h => by
      rw [show Try.f6.params.toList.length = 3 by kernel_rfl] at h
      match ds, h with
      | [_, _, _], _ => rfl)
    laidOut (N := 8) (by kernel_rfl) (by kernel_rfl) D.law6 hval hW
theorem over : Rows.fnExactWindowPowersRow.holds Try.pinned (OpenSpec.ofChange Rows.fnExactWindowPowersSpec) :=
  OpenClaim.holds_of_wide 6 Try.f6 rfl rfl rfl rfl rfl rfl rfl ⟨rfl, rfl, rfl, rfl, rfl⟩ rfl rfl rfl rfl rfl (by kernel_rfl) Try.func6 (by kernel_rfl)
    (of_decide_eq_true (by kernel_rfl)) (by unfold Func.isWrapper; first | (rw [if_pos (by decide +kernel)]; kernel_rfl) | (rw [if_neg (by decide +kernel)]; exact ⟨rfl, rfl⟩))
    (fun os started H enc _ => lifted os started H enc)
theorem proved : Rows.FnExactWindowPowersSaid := over
#print axioms proved
end Go.Proofs.Ytcadjmbpmbdliaa.fnExactWindowPowers
namespace Go.Proofs.Ytcadjmbpmbdliaa
/-- The row, under a short name, for the claim. -/
theorem fnExactWindowPowers_holds : Rows.FnExactWindowPowersSaid := fnExactWindowPowers.proved
end Go.Proofs.Ytcadjmbpmbdliaa
end
