/- FnExactCrossingsOf holds: for every input the law returns true, and its arguments read as before. -/
import Derived.Test.YtcadjmbpmbdliaaChecked
import Derived.Test.YtcadjmbpmbdliaaDeskC
import Derived.KernelRfl
import Derived.Test.YtcadjmbpmbdliaaRows
import Derived.WalkKit
import Derived.ProofKit
import Derived.OpenShut
import Derived.ShutString
import Derived.ChangeOld
import Derived.Below
import Derived.SizedLaws
set_option linter.all false
section
/- The tables of the reading: types and functions of the translation, with what is kept at each region's beginning (written by a program of this workplace). -/
namespace Go.Proofs.Ytcadjmbpmbdliaa.D
open Go Go.Desk
def bodyOf (f : Func) : Code := match f.body with
  | some c => c
  | none => .skip
def tyTab : List (Nat × TD) := [
  (2, ⟨false, 1, 8, [.leaf], [.int .i64 0], .int .i64⟩),
  (3, ⟨false, 1, 8, [.leaf], [.int .i64 0], .int .i64⟩),
  (4, ⟨false, 1, 1, [.leaf], [.bool false], .bool⟩),
  (22, ⟨false, 1, 24, [.sl .own [.leaf]], [.lst 0 []], .slc 28⟩),
  (28, ⟨false, 1, 4, [.leaf], [.flt .f32 0], .flt .f32⟩),
  (32, ⟨false, 1, 8, [.leaf], [.flt .f64 0], .flt .f64⟩)]
noncomputable def c3 : Code := bodyOf Try.f3
noncomputable def c9 : Code := bodyOf Try.f9
noncomputable def c10 : Code := bodyOf Try.f10
noncomputable def c11 : Code := bodyOf Try.f11
noncomputable def c12 : Code := bodyOf Try.f12
noncomputable def c15 : Code := bodyOf Try.f15
noncomputable def c34 : Code := bodyOf Try.f34
noncomputable def c35 : Code := bodyOf Try.f35
noncomputable def fnTab : List (Nat × FD) := [
  (3, .code c3 [.val] [] [(2, none)] [(0, [0]), (1, [0]), (2, []), (3, [0]), (4, [0, 3, 4]), (5, [0, 3, 4, 5]), (6, [0, 3, 4, 5, 6, 7]), (7, []), (8, [0, 5]), (9, []), (10, [])]),
  (9, .code c9 [.val] [] [(2, none), (3, none)] [(0, [0]), (1, [0]), (2, []), (3, [0]), (4, [0, 4]), (5, [0, 4, 5]), (6, [0, 4, 5]), (7, [0, 4, 5]), (8, [0, 4, 5]), (9, [4]), (1000005, [4])]),
  (10, .code c10 [.val] [] [(2, none)] [(0, [0]), (1, [0]), (2, [0, 3]), (3, [0, 3, 4]), (4, [0, 3, 4]), (5, [0, 3, 4]), (6, [3]), (1000003, [3])]),
  (11, .code c11 [.val] [] [(2, none), (3, none)] [(0, [0]), (1, [0]), (2, []), (3, [0]), (4, [0, 4]), (5, [0, 4, 5]), (6, [0, 4, 5]), (7, [0, 4, 5]), (8, [0, 4, 5, 6, 7]), (9, [0, 4, 5]), (10, [4]), (1000005, [4])]),
  (12, .code c12 [.val, .val] [] [(4, none)] [(0, [0, 1]), (1, [0, 1]), (2, []), (3, [0, 1]), (4, [0, 1, 5]), (5, [0, 1, 5]), (6, [0, 1, 5]), (7, []), (8, []), (1000004, [4])]),
  (15, .code c15 [.val, .val] [] [(4, none)] [(0, [0, 1]), (1, [0, 1]), (2, [0, 1]), (3, [0, 1]), (4, [0, 1]), (5, [0, 1])]),
  (34, .code c34 [.val] [] [(2, none)] [(0, [0]), (1, [0])]),
  (35, .code c35 [.val] [] [(2, none)] [(0, [0]), (1, [0])])]
noncomputable def E : Env := ⟨fun t => lookT tyTab t, lookF fnTab⟩
noncomputable def fdAt (n : Nat) : FD := match lookF fnTab n with
  | some d => d
  | none => .ext fun _ => none
noncomputable def keepAt (n : Nat) : List (Nat × List Nat) := match lookF fnTab n with
  | some d => d.keep
  | none => []
theorem tysOk : TysOk Try.prog E := tysOk_of (l := tyTab) (fun _ => rfl) (by kernel_rfl)
theorem ft3 : FnTab Try.prog E 3 (fdAt 3) := fnTab_code (c := c3) (modes := (fdAt 3).ms) (outs := (fdAt 3).os) (results := (fdAt 3).rs) (keep := (fdAt 3).keep) Try.func3 (by kernel_rfl) (by kernel_rfl) (by kernel_rfl)
theorem ft9 : FnTab Try.prog E 9 (fdAt 9) := fnTab_code (c := c9) (modes := (fdAt 9).ms) (outs := (fdAt 9).os) (results := (fdAt 9).rs) (keep := (fdAt 9).keep) Try.func9 (by kernel_rfl) (by kernel_rfl) (by kernel_rfl)
theorem ft10 : FnTab Try.prog E 10 (fdAt 10) := fnTab_code (c := c10) (modes := (fdAt 10).ms) (outs := (fdAt 10).os) (results := (fdAt 10).rs) (keep := (fdAt 10).keep) Try.func10 (by kernel_rfl) (by kernel_rfl) (by kernel_rfl)
theorem ft11 : FnTab Try.prog E 11 (fdAt 11) := fnTab_code (c := c11) (modes := (fdAt 11).ms) (outs := (fdAt 11).os) (results := (fdAt 11).rs) (keep := (fdAt 11).keep) Try.func11 (by kernel_rfl) (by kernel_rfl) (by kernel_rfl)
theorem ft12 : FnTab Try.prog E 12 (fdAt 12) := fnTab_code (c := c12) (modes := (fdAt 12).ms) (outs := (fdAt 12).os) (results := (fdAt 12).rs) (keep := (fdAt 12).keep) Try.func12 (by kernel_rfl) (by kernel_rfl) (by kernel_rfl)
theorem ft15 : FnTab Try.prog E 15 (fdAt 15) := fnTab_code (c := c15) (modes := (fdAt 15).ms) (outs := (fdAt 15).os) (results := (fdAt 15).rs) (keep := (fdAt 15).keep) Try.func15 (by kernel_rfl) (by kernel_rfl) (by kernel_rfl)
theorem ft34 : FnTab Try.prog E 34 (fdAt 34) := fnTab_code (c := c34) (modes := (fdAt 34).ms) (outs := (fdAt 34).os) (results := (fdAt 34).rs) (keep := (fdAt 34).keep) Try.func34 (by kernel_rfl) (by kernel_rfl) (by kernel_rfl)
theorem ft35 : FnTab Try.prog E 35 (fdAt 35) := fnTab_code (c := c35) (modes := (fdAt 35).ms) (outs := (fdAt 35).os) (results := (fdAt 35).rs) (keep := (fdAt 35).keep) Try.func35 (by kernel_rfl) (by kernel_rfl) (by kernel_rfl)
theorem allFns : AllFns Try.prog E fnTab := .cons ft3 (.cons ft9 (.cons ft10 (.cons ft11 (.cons ft12 (.cons ft15 (.cons ft34 (.cons ft35 (.nil))))))))
theorem fnOk : ∀ f fd, E.fn f = some fd → FnTab Try.prog E f fd := fnTab_of (l := fnTab) (fun _ => rfl) allFns
end Go.Proofs.Ytcadjmbpmbdliaa.D
end
section
/- Plain functions for the law's Go functions, each tied to the reading by the kernel (printed by a program of this workplace). -/
namespace Go.Proofs.Ytcadjmbpmbdliaa.D
open Go Go.Desk
set_option linter.unusedVariables false
def f10_l_toFloat32S.l0 (n : Nat) : Nat → Nat → List T → Nat → List T → Int → Option (Nat × List T)
  | 0, _, _, _, _, _ => none
  | m + 1, n1, l2, n3, l4, i5 =>
    br (decide (i5 < ((n1 : Nat) : Int))) (
     gd ((decide (((0 : Int) ≤ i5) ∧ (i5 < ((n1 : Nat) : Int)))) && (okAt [(CK.flt FloatKind.f32)] l2 (Int.toNat i5))) (
     gd (decide (((0 : Int) ≤ i5) ∧ (i5 < ((n3 : Nat) : Int)))) (
     gd (Nat.ble ((Int.toNat i5) + 1) (List.length l4)) (
     let l6 : List T := (setN l4 (Int.toNat i5) [(T.flt FloatKind.f32 (fAt l2 (Int.toNat i5)))])
     f10_l_toFloat32S.l0 n m n1 l2 n3 l6 (IntKind.i64.wrap (i5 + (1 : Int))))))) (
     some (n3, l4))
def f10_l_toFloat32S : Nat → Nat → List T → Option (Nat × List T)
  | 0, _, _ => none
  | n + 1, n1, l2 =>
    gd (decide (((0 : Int) ≤ ((n1 : Nat) : Int)) ∧ (((n1 : Nat) : Int) ≤ (2147483648 : Int)))) (
    let l3 : List T := (reps n1 [(T.flt FloatKind.f32 0)])
    bd (f10_l_toFloat32S.l0 n n n1 l2 n1 l3 (0 : Int)) fun r4 =>
    let n5 : Nat := r4.1
    let l6 : List T := r4.2
    some (n5, l6))
def sg_l : Sig (Nat × List T) where
  pk := fun v => [.lst v.1 v.2]
  up := fun ls => match ls with
    | [.lst a0 a1] => some (a0, a1)
    | _ => none
  ok := by
    intro ls v h
    split at h
    · cases h; rfl
    · cases h

def sg_lli : Sig (Nat × List T × Nat × List T × Int) where
  pk := fun v => [.lst v.1 v.2.1, .lst v.2.2.1 v.2.2.2.1, .int v.2.2.2.2]
  up := fun ls => match ls with
    | [.lst a0 a1, .lst a2 a3, .int a4] => some (a0, a1, a2, a3, a4)
    | _ => none
  ok := by
    intro ls v h
    split at h
    · cases h; rfl
    · cases h

def f10_l_toFloat32S.l0.P : AS := ⟨[(0, .val false [.sl .shr [.leaf]] [.lst 0 []] [] 0), (3, .val false [.sl .own [.leaf]] [.lst 0 []] [] 0), (4, .val false [.leaf] [.int .i64 0] [] 0)], 0⟩
def f10_l_toFloat32S.l0.A : Alt (Nat × List T) := .one (.exit 0) ⟨[(3, .val false [.sl .own [.leaf]] [.lst 0 []] [] 0)], 0⟩ sg_l
def f10_l_toFloat32S.l0.F (n m : Nat) (v : Nat × List T × Nat × List T × Int) := f10_l_toFloat32S.l0 n m v.1 v.2.1 v.2.2.1 v.2.2.2.1 v.2.2.2.2
def f10_l_toFloat32S.l0.W (n : Nat) : LpW := .of 48 f10_l_toFloat32S.l0.P sg_lli f10_l_toFloat32S.l0.A (f10_l_toFloat32S.l0.F n n)
def f10_l_toFloat32S.P : List Arg := [⟨.val, ⟨false, [.sl .shr [.leaf]], [.lst 0 []]⟩⟩]
def f10_l_toFloat32S.A : RAlt (Nat × List T) := .one ⟨[⟨false, [.sl .own [.leaf]], [.lst 0 []]⟩], [none]⟩ sg_l
def f10_l_toFloat32S.F (n : Nat) (v : Nat × List T) := f10_l_toFloat32S n v.1 v.2
noncomputable def f10_l_toFloat32S.O (n : Nat) : Orc := orcOf (E := E) [] [f10_l_toFloat32S.l0.W n] n
theorem f10_l_toFloat32S.l0.ok (n : Nat) : LpOk (f10_l_toFloat32S.O n) E (evalFn E n) n (keepAt 10) (.loop (loopAt c10 0)) :=
  lp_pure f10_l_toFloat32S.l0.P sg_lli f10_l_toFloat32S.l0.A (f10_l_toFloat32S.l0.F n) (orcOf_cf _ _ n) (lpOk_of (bs := []) (by kernel_rfl) .nil) (fun _ => rfl) (fun _ _ => by kernel_rfl) (fun _ _ _ => by kernel_rfl)
theorem f10_l_toFloat32S.ok : ∀ n v x, f10_l_toFloat32S.F n v = some x → evalFn E n 10 (flAs f10_l_toFloat32S.P (sg_l.pk v)) = some (f10_l_toFloat32S.A.enc x) :=
  fn_pure (modes := (fdAt 10).ms) (outs := (fdAt 10).os) (results := (fdAt 10).rs) f10_l_toFloat32S.O (c := c10) (keep := keepAt 10) (by kernel_rfl) (fun n => orcOf_cf _ _ n) (fun n => lpOk_of (bs := [loopAt c10 0]) (by kernel_rfl) (.cons (f10_l_toFloat32S.l0.ok n) .nil)) (fun _ => rfl) (fun _ _ => by kernel_rfl)
noncomputable def f10_l_toFloat32S.w : FnW E := fnW 10 f10_l_toFloat32S.P sg_l f10_l_toFloat32S.A f10_l_toFloat32S.F f10_l_toFloat32S.ok

def f34_s_l01Few : Nat → Nat → List T → Option (Bool)
  | 0, _, _ => none
  | n + 1, n1, l2 =>
    some (decide (((n1 : Nat) : Int) ≤ (256 : Int)))
def sg_b : Sig (Bool) where
  pk := fun v => [.bool v]
  up := fun ls => match ls with
    | [.bool a0] => some a0
    | _ => none
  ok := by
    intro ls v h
    split at h
    · cases h; rfl
    · cases h

def f34_s_l01Few.P : List Arg := [⟨.val, ⟨false, [.sl .shr [.leaf]], [.lst 0 []]⟩⟩]
def f34_s_l01Few.A : RAlt (Bool) := .one ⟨[⟨false, [.leaf], [.bool false]⟩], [none]⟩ sg_b
def f34_s_l01Few.F (n : Nat) (v : Nat × List T) := f34_s_l01Few n v.1 v.2
noncomputable def f34_s_l01Few.O (n : Nat) : Orc := orcOf (E := E) [] [] n
theorem f34_s_l01Few.ok : ∀ n v x, f34_s_l01Few.F n v = some x → evalFn E n 34 (flAs f34_s_l01Few.P (sg_l.pk v)) = some (f34_s_l01Few.A.enc x) :=
  fn_pure (modes := (fdAt 34).ms) (outs := (fdAt 34).os) (results := (fdAt 34).rs) f34_s_l01Few.O (c := c34) (keep := keepAt 34) (by kernel_rfl) (fun n => orcOf_cf _ _ n) (fun n => lpOk_of (bs := []) (by kernel_rfl) .nil) (fun _ => rfl) (fun _ _ => by kernel_rfl)
noncomputable def f34_s_l01Few.w : FnW E := fnW 34 f34_s_l01Few.P sg_l f34_s_l01Few.A f34_s_l01Few.F f34_s_l01Few.ok

def f9_s_CrossingsOf.l0 (n : Nat) : Nat → Nat → List T → Int → Int → Option (Int)
  | 0, _, _, _, _ => none
  | m + 1, n1, l2, i3, i4 =>
    br (decide (i4 < ((n1 : Nat) : Int))) (
     gd ((decide (((0 : Int) ≤ (IntKind.i64.wrap (i4 - (1 : Int)))) ∧ ((IntKind.i64.wrap (i4 - (1 : Int))) < ((n1 : Nat) : Int)))) && (okAt [(CK.flt FloatKind.f32)] l2 (Int.toNat (IntKind.i64.wrap (i4 - (1 : Int)))))) (
     br (fge FloatKind.f32 (fAt l2 (Int.toNat (IntKind.i64.wrap (i4 - (1 : Int))))) 0) (
      gd ((decide (((0 : Int) ≤ i4) ∧ (i4 < ((n1 : Nat) : Int)))) && (okAt [(CK.flt FloatKind.f32)] l2 (Int.toNat i4))) (
      br (flt FloatKind.f32 (fAt l2 (Int.toNat i4)) 0) (
       let i5 : Int := (IntKind.i64.wrap (i3 + (1 : Int)))
       f9_s_CrossingsOf.l0 n m n1 l2 i5 (IntKind.i64.wrap (i4 + (1 : Int)))) (
       gd ((decide (((0 : Int) ≤ (IntKind.i64.wrap (i4 - (1 : Int)))) ∧ ((IntKind.i64.wrap (i4 - (1 : Int))) < ((n1 : Nat) : Int)))) && (okAt [(CK.flt FloatKind.f32)] l2 (Int.toNat (IntKind.i64.wrap (i4 - (1 : Int)))))) (
       br (flt FloatKind.f32 (fAt l2 (Int.toNat (IntKind.i64.wrap (i4 - (1 : Int))))) 0) (
        gd ((decide (((0 : Int) ≤ i4) ∧ (i4 < ((n1 : Nat) : Int)))) && (okAt [(CK.flt FloatKind.f32)] l2 (Int.toNat i4))) (
        br (fge FloatKind.f32 (fAt l2 (Int.toNat i4)) 0) (
         let i6 : Int := (IntKind.i64.wrap (i3 + (1 : Int)))
         f9_s_CrossingsOf.l0 n m n1 l2 i6 (IntKind.i64.wrap (i4 + (1 : Int)))) (
         f9_s_CrossingsOf.l0 n m n1 l2 i3 (IntKind.i64.wrap (i4 + (1 : Int)))))) (
        f9_s_CrossingsOf.l0 n m n1 l2 i3 (IntKind.i64.wrap (i4 + (1 : Int)))))))) (
      gd ((decide (((0 : Int) ≤ (IntKind.i64.wrap (i4 - (1 : Int)))) ∧ ((IntKind.i64.wrap (i4 - (1 : Int))) < ((n1 : Nat) : Int)))) && (okAt [(CK.flt FloatKind.f32)] l2 (Int.toNat (IntKind.i64.wrap (i4 - (1 : Int)))))) (
      br (flt FloatKind.f32 (fAt l2 (Int.toNat (IntKind.i64.wrap (i4 - (1 : Int))))) 0) (
       gd ((decide (((0 : Int) ≤ i4) ∧ (i4 < ((n1 : Nat) : Int)))) && (okAt [(CK.flt FloatKind.f32)] l2 (Int.toNat i4))) (
       br (fge FloatKind.f32 (fAt l2 (Int.toNat i4)) 0) (
        let i7 : Int := (IntKind.i64.wrap (i3 + (1 : Int)))
        f9_s_CrossingsOf.l0 n m n1 l2 i7 (IntKind.i64.wrap (i4 + (1 : Int)))) (
        f9_s_CrossingsOf.l0 n m n1 l2 i3 (IntKind.i64.wrap (i4 + (1 : Int)))))) (
       f9_s_CrossingsOf.l0 n m n1 l2 i3 (IntKind.i64.wrap (i4 + (1 : Int)))))))) (
     some i3)
def f9_s_CrossingsOf : Nat → Nat → List T → Option (Int × Bool)
  | 0, _, _ => none
  | n + 1, n1, l2 =>
    bd (f34_s_l01Few n n1 l2) fun r3 =>
    let b4 : Bool := r3
    br (!b4) (
     some ((0 : Int), false)) (
     bd (f9_s_CrossingsOf.l0 n n n1 l2 (0 : Int) (1 : Int)) fun r5 =>
     let i6 : Int := r5
     some (i6, true))
def sg_ib : Sig (Int × Bool) where
  pk := fun v => [.int v.1, .bool v.2]
  up := fun ls => match ls with
    | [.int a0, .bool a1] => some (a0, a1)
    | _ => none
  ok := by
    intro ls v h
    split at h
    · cases h; rfl
    · cases h

def sg_lii : Sig (Nat × List T × Int × Int) where
  pk := fun v => [.lst v.1 v.2.1, .int v.2.2.1, .int v.2.2.2]
  up := fun ls => match ls with
    | [.lst a0 a1, .int a2, .int a3] => some (a0, a1, a2, a3)
    | _ => none
  ok := by
    intro ls v h
    split at h
    · cases h; rfl
    · cases h

def sg_i : Sig (Int) where
  pk := fun v => [.int v]
  up := fun ls => match ls with
    | [.int a0] => some a0
    | _ => none
  ok := by
    intro ls v h
    split at h
    · cases h; rfl
    · cases h

def f9_s_CrossingsOf.l0.P : AS := ⟨[(0, .val false [.sl .shr [.leaf]] [.lst 0 []] [] 0), (4, .val false [.leaf] [.int .i64 0] [] 0), (5, .val false [.leaf] [.int .i64 0] [] 0)], 0⟩
def f9_s_CrossingsOf.l0.A : Alt (Int) := .one (.exit 0) ⟨[(4, .val false [.leaf] [.int .i64 0] [] 0)], 0⟩ sg_i
def f9_s_CrossingsOf.l0.F (n m : Nat) (v : Nat × List T × Int × Int) := f9_s_CrossingsOf.l0 n m v.1 v.2.1 v.2.2.1 v.2.2.2
def f9_s_CrossingsOf.l0.W (n : Nat) : LpW := .of 80 f9_s_CrossingsOf.l0.P sg_lii f9_s_CrossingsOf.l0.A (f9_s_CrossingsOf.l0.F n n)
def f9_s_CrossingsOf.P : List Arg := [⟨.val, ⟨false, [.sl .shr [.leaf]], [.lst 0 []]⟩⟩]
def f9_s_CrossingsOf.A : RAlt (Int × Bool) := .one ⟨[⟨false, [.leaf], [.int .i64 0]⟩, ⟨false, [.leaf], [.bool false]⟩], [none]⟩ sg_ib
def f9_s_CrossingsOf.F (n : Nat) (v : Nat × List T) := f9_s_CrossingsOf n v.1 v.2
noncomputable def f9_s_CrossingsOf.O (n : Nat) : Orc := orcOf (E := E) [f34_s_l01Few.w] [f9_s_CrossingsOf.l0.W n] n
theorem f9_s_CrossingsOf.l0.ok (n : Nat) : LpOk (f9_s_CrossingsOf.O n) E (evalFn E n) n (keepAt 9) (.loop (loopAt c9 0)) :=
  lp_pure f9_s_CrossingsOf.l0.P sg_lii f9_s_CrossingsOf.l0.A (f9_s_CrossingsOf.l0.F n) (orcOf_cf _ _ n) (lpOk_of (bs := []) (by kernel_rfl) .nil) (fun _ => rfl) (fun _ _ => by kernel_rfl) (fun _ _ _ => by kernel_rfl)
theorem f9_s_CrossingsOf.ok : ∀ n v x, f9_s_CrossingsOf.F n v = some x → evalFn E n 9 (flAs f9_s_CrossingsOf.P (sg_l.pk v)) = some (f9_s_CrossingsOf.A.enc x) :=
  fn_pure (modes := (fdAt 9).ms) (outs := (fdAt 9).os) (results := (fdAt 9).rs) f9_s_CrossingsOf.O (c := c9) (keep := keepAt 9) (by kernel_rfl) (fun n => orcOf_cf _ _ n) (fun n => lpOk_of (bs := [loopAt c9 0]) (by kernel_rfl) (.cons (f9_s_CrossingsOf.l0.ok n) .nil)) (fun _ => rfl) (fun _ _ => by kernel_rfl)
noncomputable def f9_s_CrossingsOf.w : FnW E := fnW 9 f9_s_CrossingsOf.P sg_l f9_s_CrossingsOf.A f9_s_CrossingsOf.F f9_s_CrossingsOf.ok

def f35_i_areSamples : Nat → Nat → List T → Option (Bool)
  | 0, _, _ => none
  | n + 1, n1, l2 =>
    some (decide (((n1 : Nat) : Int) ≤ (256 : Int)))
def f35_i_areSamples.P : List Arg := [⟨.val, ⟨false, [.sl .shr [.leaf]], [.lst 0 []]⟩⟩]
def f35_i_areSamples.A : RAlt (Bool) := .one ⟨[⟨false, [.leaf], [.bool false]⟩], [none]⟩ sg_b
def f35_i_areSamples.F (n : Nat) (v : Nat × List T) := f35_i_areSamples n v.1 v.2
noncomputable def f35_i_areSamples.O (n : Nat) : Orc := orcOf (E := E) [] [] n
theorem f35_i_areSamples.ok : ∀ n v x, f35_i_areSamples.F n v = some x → evalFn E n 35 (flAs f35_i_areSamples.P (sg_l.pk v)) = some (f35_i_areSamples.A.enc x) :=
  fn_pure (modes := (fdAt 35).ms) (outs := (fdAt 35).os) (results := (fdAt 35).rs) f35_i_areSamples.O (c := c35) (keep := keepAt 35) (by kernel_rfl) (fun n => orcOf_cf _ _ n) (fun n => lpOk_of (bs := []) (by kernel_rfl) .nil) (fun _ => rfl) (fun _ _ => by kernel_rfl)
noncomputable def f35_i_areSamples.w : FnW E := fnW 35 f35_i_areSamples.P sg_l f35_i_areSamples.A f35_i_areSamples.F f35_i_areSamples.ok

def f11_i_CrossingsOf.l0 (n : Nat) : Nat → Nat → List T → Int → Int → Option (Int)
  | 0, _, _, _, _ => none
  | m + 1, n1, l2, i3, i4 =>
    br (decide (i4 < ((n1 : Nat) : Int))) (
     gd ((decide (((0 : Int) ≤ (IntKind.i64.wrap (i4 - (1 : Int)))) ∧ ((IntKind.i64.wrap (i4 - (1 : Int))) < ((n1 : Nat) : Int)))) && (okAt [(CK.flt FloatKind.f32)] l2 (Int.toNat (IntKind.i64.wrap (i4 - (1 : Int)))))) (
     gd ((decide (((0 : Int) ≤ i4) ∧ (i4 < ((n1 : Nat) : Int)))) && (okAt [(CK.flt FloatKind.f32)] l2 (Int.toNat i4))) (
     let x5 : Nat := (fAt l2 (Int.toNat (IntKind.i64.wrap (i4 - (1 : Int)))))
     let x6 : Nat := (fAt l2 (Int.toNat i4))
     br (flt FloatKind.f32 x6 0) (
      br (fge FloatKind.f32 x5 0) (
       let i7 : Int := (IntKind.i64.wrap (i3 + (1 : Int)))
       f11_i_CrossingsOf.l0 n m n1 l2 i7 (IntKind.i64.wrap (i4 + (1 : Int)))) (
       br (fge FloatKind.f32 x6 0) (
        br (flt FloatKind.f32 x5 0) (
         let i8 : Int := (IntKind.i64.wrap (i3 + (1 : Int)))
         f11_i_CrossingsOf.l0 n m n1 l2 i8 (IntKind.i64.wrap (i4 + (1 : Int)))) (
         f11_i_CrossingsOf.l0 n m n1 l2 i3 (IntKind.i64.wrap (i4 + (1 : Int))))) (
        f11_i_CrossingsOf.l0 n m n1 l2 i3 (IntKind.i64.wrap (i4 + (1 : Int)))))) (
      br (fge FloatKind.f32 x6 0) (
       br (flt FloatKind.f32 x5 0) (
        let i9 : Int := (IntKind.i64.wrap (i3 + (1 : Int)))
        f11_i_CrossingsOf.l0 n m n1 l2 i9 (IntKind.i64.wrap (i4 + (1 : Int)))) (
        f11_i_CrossingsOf.l0 n m n1 l2 i3 (IntKind.i64.wrap (i4 + (1 : Int))))) (
       f11_i_CrossingsOf.l0 n m n1 l2 i3 (IntKind.i64.wrap (i4 + (1 : Int)))))))) (
     some i3)
def f11_i_CrossingsOf : Nat → Nat → List T → Option (Int × Bool)
  | 0, _, _ => none
  | n + 1, n1, l2 =>
    bd (f35_i_areSamples n n1 l2) fun r3 =>
    let b4 : Bool := r3
    br (!b4) (
     some ((0 : Int), false)) (
     bd (f11_i_CrossingsOf.l0 n n n1 l2 (0 : Int) (1 : Int)) fun r5 =>
     let i6 : Int := r5
     some (i6, true))
def f11_i_CrossingsOf.l0.P : AS := ⟨[(0, .val false [.sl .shr [.leaf]] [.lst 0 []] [] 0), (4, .val false [.leaf] [.int .i64 0] [] 0), (5, .val false [.leaf] [.int .i64 0] [] 0)], 0⟩
def f11_i_CrossingsOf.l0.A : Alt (Int) := .one (.exit 0) ⟨[(4, .val false [.leaf] [.int .i64 0] [] 0)], 0⟩ sg_i
def f11_i_CrossingsOf.l0.F (n m : Nat) (v : Nat × List T × Int × Int) := f11_i_CrossingsOf.l0 n m v.1 v.2.1 v.2.2.1 v.2.2.2
def f11_i_CrossingsOf.l0.W (n : Nat) : LpW := .of 80 f11_i_CrossingsOf.l0.P sg_lii f11_i_CrossingsOf.l0.A (f11_i_CrossingsOf.l0.F n n)
def f11_i_CrossingsOf.P : List Arg := [⟨.val, ⟨false, [.sl .shr [.leaf]], [.lst 0 []]⟩⟩]
def f11_i_CrossingsOf.A : RAlt (Int × Bool) := .one ⟨[⟨false, [.leaf], [.int .i64 0]⟩, ⟨false, [.leaf], [.bool false]⟩], [none]⟩ sg_ib
def f11_i_CrossingsOf.F (n : Nat) (v : Nat × List T) := f11_i_CrossingsOf n v.1 v.2
noncomputable def f11_i_CrossingsOf.O (n : Nat) : Orc := orcOf (E := E) [f35_i_areSamples.w] [f11_i_CrossingsOf.l0.W n] n
theorem f11_i_CrossingsOf.l0.ok (n : Nat) : LpOk (f11_i_CrossingsOf.O n) E (evalFn E n) n (keepAt 11) (.loop (loopAt c11 0)) :=
  lp_pure f11_i_CrossingsOf.l0.P sg_lii f11_i_CrossingsOf.l0.A (f11_i_CrossingsOf.l0.F n) (orcOf_cf _ _ n) (lpOk_of (bs := []) (by kernel_rfl) .nil) (fun _ => rfl) (fun _ _ => by kernel_rfl) (fun _ _ _ => by kernel_rfl)
theorem f11_i_CrossingsOf.ok : ∀ n v x, f11_i_CrossingsOf.F n v = some x → evalFn E n 11 (flAs f11_i_CrossingsOf.P (sg_l.pk v)) = some (f11_i_CrossingsOf.A.enc x) :=
  fn_pure (modes := (fdAt 11).ms) (outs := (fdAt 11).os) (results := (fdAt 11).rs) f11_i_CrossingsOf.O (c := c11) (keep := keepAt 11) (by kernel_rfl) (fun n => orcOf_cf _ _ n) (fun n => lpOk_of (bs := [loopAt c11 0]) (by kernel_rfl) (.cons (f11_i_CrossingsOf.l0.ok n) .nil)) (fun _ => rfl) (fun _ _ => by kernel_rfl)
noncomputable def f11_i_CrossingsOf.w : FnW E := fnW 11 f11_i_CrossingsOf.P sg_l f11_i_CrossingsOf.A f11_i_CrossingsOf.F f11_i_CrossingsOf.ok

def f15_l_sameFloat : Nat → Nat → Nat → Option (Bool)
  | 0, _, _ => none
  | n + 1, x1, x2 =>
    br (fne FloatKind.f64 x1 x1) (
     br (fne FloatKind.f64 x1 x1) (
      some (fne FloatKind.f64 x2 x2)) (
      some false)) (
     br (fne FloatKind.f64 x2 x2) (
      br (fne FloatKind.f64 x1 x1) (
       some (fne FloatKind.f64 x2 x2)) (
       some false)) (
      br (feq FloatKind.f64 x1 0) (
       br (feq FloatKind.f64 x2 0) (
        some ((fgt FloatKind.f64 (fdiv FloatKind.f64 4607182418800017408 x1) 0) == (fgt FloatKind.f64 (fdiv FloatKind.f64 4607182418800017408 x2) 0))) (
        some (feq FloatKind.f64 x1 x2))) (
       some (feq FloatKind.f64 x1 x2))))
def sg_ff : Sig (Nat × Nat) where
  pk := fun v => [.flt v.1, .flt v.2]
  up := fun ls => match ls with
    | [.flt a0, .flt a1] => some (a0, a1)
    | _ => none
  ok := by
    intro ls v h
    split at h
    · cases h; rfl
    · cases h

def f15_l_sameFloat.P : List Arg := [⟨.val, ⟨false, [.leaf], [.flt .f64 0]⟩⟩, ⟨.val, ⟨false, [.leaf], [.flt .f64 0]⟩⟩]
def f15_l_sameFloat.A : RAlt (Bool) := .one ⟨[⟨false, [.leaf], [.bool false]⟩], [none, none]⟩ sg_b
def f15_l_sameFloat.F (n : Nat) (v : Nat × Nat) := f15_l_sameFloat n v.1 v.2
noncomputable def f15_l_sameFloat.O (n : Nat) : Orc := orcOf (E := E) [] [] n
theorem f15_l_sameFloat.ok : ∀ n v x, f15_l_sameFloat.F n v = some x → evalFn E n 15 (flAs f15_l_sameFloat.P (sg_ff.pk v)) = some (f15_l_sameFloat.A.enc x) :=
  fn_pure (modes := (fdAt 15).ms) (outs := (fdAt 15).os) (results := (fdAt 15).rs) f15_l_sameFloat.O (c := c15) (keep := keepAt 15) (by kernel_rfl) (fun n => orcOf_cf _ _ n) (fun n => lpOk_of (bs := []) (by kernel_rfl) .nil) (fun _ => rfl) (fun _ _ => by kernel_rfl)
noncomputable def f15_l_sameFloat.w : FnW E := fnW 15 f15_l_sameFloat.P sg_ff f15_l_sameFloat.A f15_l_sameFloat.F f15_l_sameFloat.ok

def f12_l_eqFloat32S.l0 (n : Nat) : Nat → Nat → List T → Nat → List T → Int → Option ((Bool) ⊕ (Unit))
  | 0, _, _, _, _, _ => none
  | m + 1, n1, l2, n3, l4, i5 =>
    br (decide (i5 < ((n1 : Nat) : Int))) (
     gd ((decide (((0 : Int) ≤ i5) ∧ (i5 < ((n1 : Nat) : Int)))) && (okAt [(CK.flt FloatKind.f32)] l2 (Int.toNat i5))) (
     bd ((fltToFlt FloatKind.f32 (fAt l2 (Int.toNat i5)) FloatKind.f64)) fun y6 =>
     gd ((decide (((0 : Int) ≤ i5) ∧ (i5 < ((n3 : Nat) : Int)))) && (okAt [(CK.flt FloatKind.f32)] l4 (Int.toNat i5))) (
     bd ((fltToFlt FloatKind.f32 (fAt l4 (Int.toNat i5)) FloatKind.f64)) fun y7 =>
     bd (f15_l_sameFloat n y6 y7) fun r8 =>
     let b9 : Bool := r8
     br (!b9) (
      some (Sum.inl false)) (
      f12_l_eqFloat32S.l0 n m n1 l2 n3 l4 (IntKind.i64.wrap (i5 + (1 : Int))))))) (
     some (Sum.inr ()))
def f12_l_eqFloat32S : Nat → Nat → List T → Nat → List T → Option (Bool)
  | 0, _, _, _, _ => none
  | n + 1, n1, l2, n3, l4 =>
    br (((n1 : Nat) : Int) != ((n3 : Nat) : Int)) (
     some false) (
     bd (f12_l_eqFloat32S.l0 n n n1 l2 n3 l4 (0 : Int)) fun r5 =>
     sm r5 (fun u6 =>
      let b7 : Bool := u6
      some b7) (fun u8 =>
      some true))
def sg_ll : Sig (Nat × List T × Nat × List T) where
  pk := fun v => [.lst v.1 v.2.1, .lst v.2.2.1 v.2.2.2]
  up := fun ls => match ls with
    | [.lst a0 a1, .lst a2 a3] => some (a0, a1, a2, a3)
    | _ => none
  ok := by
    intro ls v h
    split at h
    · cases h; rfl
    · cases h

def sg : Sig (Unit) where
  pk := fun v => []
  up := fun ls => match ls with
    | [] => some ()
    | _ => none
  ok := by
    intro ls v h
    split at h
    · cases h; rfl
    · cases h

def f12_l_eqFloat32S.l0.P : AS := ⟨[(0, .val false [.sl .shr [.leaf]] [.lst 0 []] [] 0), (1, .val false [.sl .shr [.leaf]] [.lst 0 []] [] 0), (5, .val false [.leaf] [.int .i64 0] [] 0)], 0⟩
def f12_l_eqFloat32S.l0.A : Alt ((Bool) ⊕ (Unit)) := .or (.one .ret ⟨[(4, .val false [.leaf] [.bool false] [] 0)], 0⟩ sg_b) (.one (.exit 0) ⟨[(4, .dead)], 0⟩ sg)
def f12_l_eqFloat32S.l0.F (n m : Nat) (v : Nat × List T × Nat × List T × Int) := f12_l_eqFloat32S.l0 n m v.1 v.2.1 v.2.2.1 v.2.2.2.1 v.2.2.2.2
def f12_l_eqFloat32S.l0.W (n : Nat) : LpW := .of 64 f12_l_eqFloat32S.l0.P sg_lli f12_l_eqFloat32S.l0.A (f12_l_eqFloat32S.l0.F n n)
def f12_l_eqFloat32S.P : List Arg := [⟨.val, ⟨false, [.sl .shr [.leaf]], [.lst 0 []]⟩⟩, ⟨.val, ⟨false, [.sl .shr [.leaf]], [.lst 0 []]⟩⟩]
def f12_l_eqFloat32S.A : RAlt (Bool) := .one ⟨[⟨false, [.leaf], [.bool false]⟩], [none, none]⟩ sg_b
def f12_l_eqFloat32S.F (n : Nat) (v : Nat × List T × Nat × List T) := f12_l_eqFloat32S n v.1 v.2.1 v.2.2.1 v.2.2.2
noncomputable def f12_l_eqFloat32S.O (n : Nat) : Orc := orcOf (E := E) [f15_l_sameFloat.w] [f12_l_eqFloat32S.l0.W n] n
theorem f12_l_eqFloat32S.l0.ok (n : Nat) : LpOk (f12_l_eqFloat32S.O n) E (evalFn E n) n (keepAt 12) (.loop (loopAt c12 0)) :=
  lp_pure f12_l_eqFloat32S.l0.P sg_lli f12_l_eqFloat32S.l0.A (f12_l_eqFloat32S.l0.F n) (orcOf_cf _ _ n) (lpOk_of (bs := []) (by kernel_rfl) .nil) (fun _ => rfl) (fun _ _ => by kernel_rfl) (fun _ _ _ => by kernel_rfl)
theorem f12_l_eqFloat32S.ok : ∀ n v x, f12_l_eqFloat32S.F n v = some x → evalFn E n 12 (flAs f12_l_eqFloat32S.P (sg_ll.pk v)) = some (f12_l_eqFloat32S.A.enc x) :=
  fn_pure (modes := (fdAt 12).ms) (outs := (fdAt 12).os) (results := (fdAt 12).rs) f12_l_eqFloat32S.O (c := c12) (keep := keepAt 12) (by kernel_rfl) (fun n => orcOf_cf _ _ n) (fun n => lpOk_of (bs := [loopAt c12 0]) (by kernel_rfl) (.cons (f12_l_eqFloat32S.l0.ok n) .nil)) (fun _ => rfl) (fun _ _ => by kernel_rfl)
noncomputable def f12_l_eqFloat32S.w : FnW E := fnW 12 f12_l_eqFloat32S.P sg_ll f12_l_eqFloat32S.A f12_l_eqFloat32S.F f12_l_eqFloat32S.ok

def f3_l_FnExactCrossingsOf : Nat → Nat → List T → Option (Bool)
  | 0, _, _ => none
  | n + 1, n1, l2 =>
    br (decide (((n1 : Nat) : Int) > (1048576 : Int))) (
     some true) (
     bd (f10_l_toFloat32S n n1 l2) fun r3 =>
     let n4 : Nat := r3.1
     let l5 : List T := r3.2
     bd (f9_s_CrossingsOf n n4 l5) fun r6 =>
     let i7 : Int := r6.1
     let b8 : Bool := r6.2
     bd (f10_l_toFloat32S n n1 l2) fun r9 =>
     let n10 : Nat := r9.1
     let l11 : List T := r9.2
     bd (f11_i_CrossingsOf n n10 l11) fun r12 =>
     let i13 : Int := r12.1
     let b14 : Bool := r12.2
     br (i13 != i7) (
      some false) (
      br (!(b14 == b8)) (
       some false) (
       bd (f10_l_toFloat32S n n1 l2) fun r15 =>
       let n16 : Nat := r15.1
       let l17 : List T := r15.2
       bd (f12_l_eqFloat32S n n10 l11 n16 l17) fun r18 =>
       let b19 : Bool := r18
       br (!b19) (
        some false) (
        some true))))
def f3_l_FnExactCrossingsOf.P : List Arg := [⟨.val, ⟨false, [.sl .shr [.leaf]], [.lst 0 []]⟩⟩]
def f3_l_FnExactCrossingsOf.A : RAlt (Bool) := .one ⟨[⟨false, [.leaf], [.bool false]⟩], [none]⟩ sg_b
def f3_l_FnExactCrossingsOf.F (n : Nat) (v : Nat × List T) := f3_l_FnExactCrossingsOf n v.1 v.2
noncomputable def f3_l_FnExactCrossingsOf.O (n : Nat) : Orc := orcOf (E := E) [f10_l_toFloat32S.w, f9_s_CrossingsOf.w, f11_i_CrossingsOf.w, f12_l_eqFloat32S.w] [] n
theorem f3_l_FnExactCrossingsOf.ok : ∀ n v x, f3_l_FnExactCrossingsOf.F n v = some x → evalFn E n 3 (flAs f3_l_FnExactCrossingsOf.P (sg_l.pk v)) = some (f3_l_FnExactCrossingsOf.A.enc x) :=
  fn_pure (modes := (fdAt 3).ms) (outs := (fdAt 3).os) (results := (fdAt 3).rs) f3_l_FnExactCrossingsOf.O (c := c3) (keep := keepAt 3) (by kernel_rfl) (fun n => orcOf_cf _ _ n) (fun n => lpOk_of (bs := []) (by kernel_rfl) .nil) (fun _ => rfl) (fun _ _ => by kernel_rfl)
noncomputable def f3_l_FnExactCrossingsOf.w : FnW E := fnW 3 f3_l_FnExactCrossingsOf.P sg_l f3_l_FnExactCrossingsOf.A f3_l_FnExactCrossingsOf.F f3_l_FnExactCrossingsOf.ok
end Go.Proofs.Ytcadjmbpmbdliaa.D
end
section
/- FnExactCrossingsOf, in plain Lean. -/
namespace Go.Proofs.Ytcadjmbpmbdliaa.D
open Go Go.Desk
set_option linter.unusedVariables false

theorem same_self (n y : Nat) : f15_l_sameFloat (n + 1) y y = some true := by
  unfold f15_l_sameFloat
  simp only [fne_feq]
  cases h : feq FloatKind.f64 y y
  · simp [br]
  · cases h0 : feq FloatKind.f64 y 0 <;> simp [br]

/-- a copy in single precision -/
theorem copy_loop (n : Nat) (xs : List Nat) (hx : xs.length ≤ 1048576) : ∀ (j i m : Nat) (ys : List Nat), ys.length = xs.length → i + j = xs.length → j < m →
    f10_l_toFloat32S.l0 n m xs.length (fls .f32 xs) xs.length (fls .f32 (xs.take i ++ ys.drop i)) (i : Int) = some (xs.length, fls .f32 xs) := by
  intro j
  induction j with
  | zero =>
    intro i m ys hl hi hm
    obtain ⟨m, rfl⟩ : ∃ k, m = k + 1 := ⟨m - 1, by omega⟩
    rw [f10_l_toFloat32S.l0, nlt_dec (by omega)]
    simp only [br]
    rw [List.take_of_length_le (by omega), List.drop_eq_nil_of_le (by omega), List.append_nil]
  | succ j ih =>
    intro i m ys hl hi hm
    obtain ⟨m, rfl⟩ : ∃ k, m = k + 1 := ⟨m - 1, by omega⟩
    have hlt : i < xs.length := by omega
    rw [f10_l_toFloat32S.l0, lt_dec hlt, in_dec hlt, Int.toNat_natCast, okAt_fls hlt, wrap_succ (by omega)]
    have hlen : Nat.ble (i + 1) (fls .f32 (xs.take i ++ ys.drop i)).length = true := by
      rw [Nat.ble_eq, fls_length]; simp; omega
    rw [hlen]
    simp only [br, gd, Bool.and_self]
    rw [setN_one, fAt_fls, set_fls]
    have : xs.getD i 0 = xs[i] := by simp [List.getD, hlt]
    rw [this, take_set_drop hlt hl]
    exact ih (i + 1) m ys hl (by omega) (by omega)

theorem copied (n : Nat) (xs : List Nat) (hx : xs.length ≤ 1048576) (hn : xs.length < n) : f10_l_toFloat32S (n + 1) xs.length (fls .f32 xs) = some (xs.length, fls .f32 xs) := by
  rw [f10_l_toFloat32S]
  have h := copy_loop n xs hx xs.length 0 n (List.replicate xs.length 0) (by simp) (by omega) hn
  rw [List.take_zero, List.drop_zero, List.nil_append] at h
  have e : decide ((0 : Int) ≤ ((xs.length : Nat) : Int) ∧ ((xs.length : Nat) : Int) ≤ (2147483648 : Int)) = true := by simp; omega
  rw [reps_fls, e]
  simp only [gd]
  rw [show ((0 : Nat) : Int) = 0 from rfl] at h
  rw [h]; rfl

/-- equal to itself -/
theorem eq_loop (n : Nat) (xs : List Nat) (hx : xs.length ≤ 1048576) : ∀ (j i m : Nat), i + j = xs.length → j < m →
    f12_l_eqFloat32S.l0 (n + 1) m xs.length (fls .f32 xs) xs.length (fls .f32 xs) (i : Int) = some (Sum.inr ()) := by
  intro j
  induction j with
  | zero =>
    intro i m hi hm
    obtain ⟨m, rfl⟩ : ∃ k, m = k + 1 := ⟨m - 1, by omega⟩
    rw [f12_l_eqFloat32S.l0, nlt_dec (by omega)]
    rfl
  | succ j ih =>
    intro i m hi hm
    obtain ⟨m, rfl⟩ : ∃ k, m = k + 1 := ⟨m - 1, by omega⟩
    have hlt : i < xs.length := by omega
    rw [f12_l_eqFloat32S.l0, lt_dec hlt, in_dec hlt, Int.toNat_natCast, okAt_fls hlt, wrap_succ (by omega), fltToFlt_wide]
    simp only [br, gd, bd, Bool.and_self, same_self, Bool.not_true]
    exact ih (i + 1) m (by omega) (by omega)

theorem eq_self (n : Nat) (xs : List Nat) (hx : xs.length ≤ 1048576) (hn : xs.length < n + 1) : f12_l_eqFloat32S (n + 2) xs.length (fls .f32 xs) xs.length (fls .f32 xs) = some true := by
  rw [f12_l_eqFloat32S]
  have h := eq_loop n xs hx xs.length 0 (n + 1) (by omega) hn
  rw [show ((0 : Nat) : Int) = 0 from rfl] at h
  rw [h, show (((xs.length : Nat) : Int) != ((xs.length : Nat) : Int)) = false by simp]
  rfl

/-- both count alike -/
theorem count_loop (n n' : Nat) (xs : List Nat) (hx : xs.length ≤ 1048576) : ∀ (j i m m' : Nat) (s : Int), i + 1 + j = xs.length → j < m → j < m' →
    ∃ r, f9_s_CrossingsOf.l0 n m xs.length (fls .f32 xs) s ((i + 1 : Nat) : Int) = some r ∧ f11_i_CrossingsOf.l0 n' m' xs.length (fls .f32 xs) s ((i + 1 : Nat) : Int) = some r := by
  intro j
  induction j with
  | zero =>
    intro i m m' s hi hm hm'
    obtain ⟨m, rfl⟩ : ∃ k, m = k + 1 := ⟨m - 1, by omega⟩
    obtain ⟨m', rfl⟩ : ∃ k, m' = k + 1 := ⟨m' - 1, by omega⟩
    refine ⟨s, ?_, ?_⟩
    · rw [f9_s_CrossingsOf.l0, nlt_dec (by omega)]; rfl
    · rw [f11_i_CrossingsOf.l0, nlt_dec (by omega)]; rfl
  | succ j ih =>
    intro i m m' s hi hm hm'
    obtain ⟨m, rfl⟩ : ∃ k, m = k + 1 := ⟨m - 1, by omega⟩
    obtain ⟨m', rfl⟩ : ∃ k, m' = k + 1 := ⟨m' - 1, by omega⟩
    have hlt : i + 1 < xs.length := by omega
    have hlt' : i < xs.length := by omega
    have e1 : IntKind.i64.wrap (((i + 1 : Nat) : Int) - 1) = (i : Int) := by rw [wrap64] <;> omega
    rw [f9_s_CrossingsOf.l0, f11_i_CrossingsOf.l0, lt_dec hlt, e1, in_dec hlt, in_dec hlt', Int.toNat_natCast, Int.toNat_natCast, okAt_fls hlt, okAt_fls hlt', wrap_succ (by omega)]
    simp only [gd, Bool.and_self]
    generalize fge FloatKind.f32 (fAt (fls .f32 xs) i) 0 = a
    generalize flt FloatKind.f32 (fAt (fls .f32 xs) i) 0 = b
    generalize fge FloatKind.f32 (fAt (fls .f32 xs) (i + 1)) 0 = c
    generalize flt FloatKind.f32 (fAt (fls .f32 xs) (i + 1)) 0 = d
    obtain ⟨r1, h1, h1'⟩ := ih (i + 1) m m' s (by omega) (by omega) (by omega)
    obtain ⟨r2, h2, h2'⟩ := ih (i + 1) m m' (IntKind.i64.wrap (s + 1)) (by omega) (by omega) (by omega)
    cases a <;> cases b <;> cases c <;> cases d <;> simp only [br] <;> first | exact ⟨r1, h1, h1'⟩ | exact ⟨r2, h2, h2'⟩

theorem counts (n : Nat) (xs : List Nat) (hx : xs.length ≤ 1048576) (hn : xs.length < n) :
    ∃ r, f9_s_CrossingsOf (n + 2) xs.length (fls .f32 xs) = some r ∧ f11_i_CrossingsOf (n + 2) xs.length (fls .f32 xs) = some r := by
  rw [f9_s_CrossingsOf, f11_i_CrossingsOf, f34_s_l01Few, f35_i_areSamples]
  simp only [bd]
  cases h : decide (((xs.length : Nat) : Int) ≤ (256 : Int))
  · exact ⟨_, rfl, rfl⟩
  · simp only [Bool.not_true, br]
    cases hl : xs.length with
    | zero =>
      refine ⟨(0, true), ?_, ?_⟩
      · rw [f9_s_CrossingsOf.l0]; rfl
      · rw [f11_i_CrossingsOf.l0]; rfl
    | succ k =>
      obtain ⟨r, h1, h2⟩ := count_loop (n + 1) (n + 1) xs hx k 0 (n + 1) (n + 1) 0 (by omega) (by omega) (by omega)
      rw [hl] at h1 h2
      refine ⟨(r, true), ?_, ?_⟩
      · rw [show ((0 + 1 : Nat) : Int) = 1 from rfl] at h1
        rw [h1]
      · rw [show ((0 + 1 : Nat) : Int) = 1 from rfl] at h2
        rw [h2]

theorem exact3 (xs : List Nat) : ∃ n, f3_l_FnExactCrossingsOf n xs.length (fls .f32 xs) = some true := by
  refine ⟨xs.length + 4, ?_⟩
  rw [f3_l_FnExactCrossingsOf]
  cases h : decide (((xs.length : Nat) : Int) > (1048576 : Int))
  · have hx : xs.length ≤ 1048576 := by simp at h; omega
    obtain ⟨⟨a, b⟩, h1, h2⟩ := counts (xs.length + 1) xs hx (by omega)
    simp only [br, copied (xs.length + 2) xs hx (by omega), bd, h1, h2, bne_self_eq_false, beq_self_eq_true, Bool.not_true, eq_self (xs.length + 1) xs hx (by omega)]
  · rfl

theorem law3 : ∀ args, LawArgs E Try.f3.params.toList args → ∃ N os, evalFn E N 3 args = some ⟨[⟨false, [.leaf], [.bool true]⟩], os⟩ := by
  intro args h
  have hp : Try.f3.params.toList = [22] := by kernel_rfl
  rw [hp] at h
  obtain ⟨ts, r, rfl, hw, hr⟩ := h.cons_inv (d := ⟨false, 1, 24, [.sl .own [.leaf]], [.lst 0 []], .slc 28⟩) (by kernel_rfl)
  obtain rfl := hr.nil_inv
  obtain ⟨n, cs, rfl, hl, hs⟩ := hw.slc_inv (e := 28) (d := ⟨false, 1, 24, [.sl .own [.leaf]], [.lst 0 []], .slc 28⟩) (by kernel_rfl) rfl
  obtain ⟨xs, rfl, rfl, hg⟩ := hs.flts (k := .f32) (d := ⟨false, 1, 4, [.leaf], [.flt .f32 0], .flt .f32⟩) (by kernel_rfl) rfl
  obtain ⟨N, hN⟩ := exact3 xs
  exact ⟨N, _, f3_l_FnExactCrossingsOf.ok N (xs.length, fls .f32 xs) true hN⟩
end Go.Proofs.Ytcadjmbpmbdliaa.D
end
section
/- FnExactCrossingsOf holds: for every input the law returns true, and its arguments read as before. -/
namespace Go.Proofs.Ytcadjmbpmbdliaa.fnExactCrossingsOf
open Go Go.ChangeShapes Go.WideShapes Go.ChangeAt Go.RowKit Go.Desk
set_option linter.unusedVariables false
theorem own : ownKnob Try.prog.godebug = none := by kernel_rfl
theorem laidOut : laidOutB Try.prog = true := by kernel_rfl
set_option maxRecDepth 100000 in
theorem lifted (os : Os) (started : os.Started) (H : Type) (enc : TypeId × Value → H) :
    ReturnsInHanded {} Try.checked os 3 .any (Rows.fnExactCrossingsOfSpec.pre6 enc Try.prog Try.f3 Rows.fnExactCrossingsOfRow.domain false) (Rows.fnExactCrossingsOfSpec.post enc Try.prog Try.f3 false true false false) := by
  refine returnsInHanded_of_change (C := Try.checked) own started (by kernel_rfl) Try.func3
    (ChangeSpec.witness6 (enc := enc) (C := Try.checked) false ⟨#[], #[.slice none 0 0], []⟩ 8 (by kernel_rfl) (by kernel_rfl) (by kernel_rfl) (by kernel_rfl)) ?_
  intro W base args ds gs before hval hW hcnd _
  exact law_contract (c := D.c3) Try.checked.mixed D.tysOk D.fnOk Try.func3 (by kernel_rfl) (by kernel_rfl) (by kernel_rfl) Try.underlying4 rfl
    (fun ds h => by
      rw [show Try.f3.params.toList.length = 1 by kernel_rfl] at h
      match ds, h with
      | [_], _ => rfl)
    laidOut (N := 8) (by kernel_rfl) (by kernel_rfl) D.law3 hval hW
theorem over : Rows.fnExactCrossingsOfRow.holds Try.pinned (OpenSpec.ofChange Rows.fnExactCrossingsOfSpec) :=
  OpenClaim.holds_of_wide 3 Try.f3 rfl rfl rfl rfl rfl rfl rfl ⟨rfl, rfl, rfl, rfl, rfl⟩ rfl rfl rfl rfl rfl (by kernel_rfl) Try.func3 (by kernel_rfl)
    (of_decide_eq_true (by kernel_rfl)) (by unfold Func.isWrapper; first | (rw [if_pos (by decide +kernel)]; kernel_rfl) | (rw [if_neg (by decide +kernel)]; exact ⟨rfl, rfl⟩))
    (fun os started H enc _ => lifted os started H enc)
theorem proved : Rows.FnExactCrossingsOfSaid := over
#print axioms proved
end Go.Proofs.Ytcadjmbpmbdliaa.fnExactCrossingsOf
namespace Go.Proofs.Ytcadjmbpmbdliaa
/-- The row, under a short name, for the claim. -/
theorem fnExactCrossingsOf_holds : Rows.FnExactCrossingsOfSaid := fnExactCrossingsOf.proved
end Go.Proofs.Ytcadjmbpmbdliaa
end
