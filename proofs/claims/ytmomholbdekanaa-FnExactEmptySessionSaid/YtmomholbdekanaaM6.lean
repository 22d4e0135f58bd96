/- FnExactEmptySession holds: for every input the law returns true, and its arguments read as before. -/
import Derived.Test.YtmomholbdekanaaChecked
import Derived.Test.YtmomholbdekanaaDeskF
import Derived.KernelRfl
import Derived.Test.YtmomholbdekanaaRows
import Derived.WalkKit
import Derived.ProofKit
import Derived.OpenShut
import Derived.ShutString
import Derived.ChangeOld
import Derived.Below
import Derived.SizedLaws
set_option linter.all false
section
/- The tables of the reading: types and functions of the translation, with what is kept at each region's beginning (written by a program of this workplace). -/
namespace Go.Proofs.Ytmomholbdekanaa.D
open Go Go.Desk
def bodyOf (f : Func) : Code := match f.body with
  | some c => c
  | none => .skip
def tyTab : List (Nat × TD) := [
  (2, ⟨false, 1, 8, [.leaf], [.int .i64 0], .int .i64⟩),
  (3, ⟨false, 1, 8, [.leaf], [.int .i64 0], .int .i64⟩),
  (4, ⟨false, 1, 1, [.leaf], [.bool false], .bool⟩),
  (24, ⟨false, 1, 24, [.sl .own [.leaf, .leaf, .sl .own [.leaf]]], [.lst 0 []], .slc 36⟩),
  (25, ⟨false, 1, 24, [.sl .own [.sl .own [.leaf, .leaf, .sl .own [.leaf]], .leaf, .leaf, .leaf, .leaf]], [.lst 0 []], .slc 107⟩),
  (27, ⟨true, 2, 48, [.sl .own [.leaf, .leaf, .sl .own [.leaf]], .sl .own [.sl .own [.leaf, .leaf, .sl .own [.leaf]], .leaf, .leaf, .leaf, .leaf]], [.lst 0 [], .lst 0 []], .st [(0, 24), (1, 25)]⟩),
  (30, ⟨false, 1, 24, [.sl .own [.leaf]], [.lst 0 []], .slc 37⟩),
  (36, ⟨true, 3, 40, [.leaf, .leaf, .sl .own [.leaf]], [.int .i64 0, .int .i64 0, .lst 0 []], .st [(0, 2), (1, 2), (2, 30)]⟩),
  (37, ⟨false, 1, 4, [.leaf], [.flt .f32 0], .flt .f32⟩),
  (41, ⟨false, 1, 24, [.sl .own [.leaf, .leaf, .sl .own [.leaf]]], [.lst 0 []], .slc 60⟩),
  (60, ⟨true, 3, 40, [.leaf, .leaf, .sl .own [.leaf]], [.int .i64 0, .int .i64 0, .lst 0 []], .st [(0, 2), (1, 2), (2, 30)]⟩),
  (107, ⟨true, 5, 40, [.sl .own [.leaf, .leaf, .sl .own [.leaf]], .leaf, .leaf, .leaf, .leaf], [.lst 0 [], .int .i64 0, .flt .f32 0, .bool false, .bool false], .st [(0, 41), (1, 2), (2, 37), (3, 4), (4, 4)]⟩),
  (179, ⟨false, 1, 8, [.leaf], [.flt .f64 0], .flt .f64⟩)]
noncomputable def c6 : Code := bodyOf Try.f6
noncomputable def c33 : Code := bodyOf Try.f33
noncomputable def c34 : Code := bodyOf Try.f34
noncomputable def c35 : Code := bodyOf Try.f35
noncomputable def c36 : Code := bodyOf Try.f36
noncomputable def c37 : Code := bodyOf Try.f37
noncomputable def c73 : Code := bodyOf Try.f73
noncomputable def c74 : Code := bodyOf Try.f74
noncomputable def c75 : Code := bodyOf Try.f75
noncomputable def c76 : Code := bodyOf Try.f76
noncomputable def c77 : Code := bodyOf Try.f77
noncomputable def c78 : Code := bodyOf Try.f78
noncomputable def c79 : Code := bodyOf Try.f79
noncomputable def c106 : Code := bodyOf Try.f106
noncomputable def c107 : Code := bodyOf Try.f107
noncomputable def c108 : Code := bodyOf Try.f108
noncomputable def c109 : Code := bodyOf Try.f109
noncomputable def c110 : Code := bodyOf Try.f110
noncomputable def c111 : Code := bodyOf Try.f111
noncomputable def c112 : Code := bodyOf Try.f112
noncomputable def c136 : Code := bodyOf Try.f136
noncomputable def c137 : Code := bodyOf Try.f137
noncomputable def c138 : Code := bodyOf Try.f138
noncomputable def c154 : Code := bodyOf Try.f154
noncomputable def fnTab : List (Nat × FD) := [
  (6, .code c6 [] [] [(0, none)] [(0, []), (1, []), (2, [1]), (3, [1, 2]), (4, []), (5, [1, 2]), (6, [1, 2, 3]), (7, [1, 2, 3]), (8, [1, 2, 3, 4]), (9, [1, 2, 3, 4]), (10, []), (11, [1, 2, 3, 4]), (12, []), (13, [1, 2, 3]), (14, [1, 2, 3, 5]), (15, []), (16, [2, 3]), (17, [2, 3, 4]), (18, [3, 4]), (19, []), (20, [3, 4]), (21, []), (22, [])]),
  (33, .code c33 [] [] [(0, some (true, 2))] [(0, []), (1, [0])]),
  (34, .code c34 [] [] [(0, some (true, 2))] [(0, []), (1, [0])]),
  (35, .code c35 [.val, .val] [] [(4, none)] [(0, [0, 1]), (1, [2, 3]), (2, []), (3, [2, 3]), (4, []), (5, [])]),
  (36, .code c36 [.io, .val] [2] [(4, none)] [(0, [0, 1]), (1, [1, 2]), (2, [1, 2]), (3, [1, 2])]),
  (37, .code c37 [.val, .val] [] [(4, none)] [(0, [0, 1]), (1, [1, 2]), (2, [1, 2]), (3, []), (4, [1, 2]), (5, [1]), (6, []), (7, [1])]),
  (73, .code c73 [] [] [(0, some (true, 2))] [(0, []), (1, [0])]),
  (74, .code c74 [.val, .val] [] [(4, none)] [(0, [0, 1]), (1, [0, 1]), (2, []), (3, [0, 1]), (4, [0, 1, 5]), (5, [0, 1, 5]), (6, [0, 1, 5]), (7, []), (8, []), (1000004, [4])]),
  (75, .code c75 [.val, .val] [] [(4, none)] [(0, [0, 1]), (1, [0, 1]), (2, []), (3, [0, 1]), (4, [0, 1, 5]), (5, [0, 1, 5]), (6, [0, 1, 5]), (7, []), (8, []), (1000004, [4])]),
  (76, .code c76 [.io, .val] [0] [(4, none)] [(0, [0, 1]), (1, [0, 1]), (2, [0, 1, 5]), (3, [0, 1, 5]), (4, [0, 1, 5]), (5, [0, 1, 5]), (6, [0, 1, 5]), (7, [0, 1, 5]), (8, [0, 1, 5]), (9, [0, 1]), (1000002, [0, 1])]),
  (77, .code c77 [.io, .val] [0] [(4, none)] [(0, [0, 1]), (1, [0, 1]), (2, [0, 1, 5]), (3, [0, 1, 5]), (4, [0, 1, 5]), (5, [0, 1, 5]), (6, [0, 1, 5]), (7, [0, 1, 5]), (8, [0, 1, 5]), (9, [0, 1, 5]), (10, [0, 1, 5]), (11, [0, 1, 5]), (12, [0, 1, 5]), (13, [0, 1]), (1000002, [0, 1])]),
  (78, .code c78 [.val, .val] [] [(4, none)] [(0, [0, 1]), (1, [0, 1]), (2, [0, 1, 5]), (3, [0, 1, 5]), (4, [0, 1, 5]), (5, []), (6, [0, 1, 5]), (7, [0, 1, 5]), (8, []), (9, [0, 1, 5]), (10, [0, 1, 5]), (11, [0, 1, 5]), (12, []), (13, [1]), (1000002, [1, 4])]),
  (79, .code c79 [.val, .val] [] [(4, none)] [(0, [0, 1]), (1, [0, 1]), (2, [0, 1, 5]), (3, [0, 1, 5]), (4, [0, 1, 5]), (5, [0, 1, 5]), (6, []), (7, [0, 1, 5]), (8, []), (9, [0, 1, 5]), (10, [0, 1, 5]), (11, []), (12, [0, 1, 5]), (13, [0, 1, 5]), (14, []), (15, [0, 1, 5]), (16, [0, 1, 5]), (17, []), (18, [0, 1, 5]), (19, [1]), (1000002, [1, 4])]),
  (106, .code c106 [] [] [(0, some (true, 5))] [(0, []), (1, [0])]),
  (107, .code c107 [.val, .val] [] [(4, none)] [(0, [0, 1]), (1, [2, 3]), (2, []), (3, [2, 3]), (4, []), (5, [2, 3]), (6, []), (7, [])]),
  (108, .code c108 [.val, .val] [] [(4, none)] [(0, [0, 1]), (1, [2, 3]), (2, []), (3, [2, 3]), (4, []), (5, [2, 3]), (6, []), (7, [2, 3]), (8, []), (9, [2, 3]), (10, []), (11, [])]),
  (109, .code c109 [.io, .val] [0] [(4, none)] [(0, [0, 1]), (1, [0, 1]), (2, [0, 1, 5]), (3, [0, 1, 5]), (4, [0, 1, 5]), (5, [0, 1, 5]), (6, [0, 1]), (1000002, [0, 1])]),
  (110, .code c110 [.io, .val] [0] [(4, none)] [(0, [0, 1]), (1, [0, 1]), (2, [0, 1, 5]), (3, [0, 1, 5]), (4, [0, 1, 5]), (5, [0, 1, 5]), (6, [0, 1, 5]), (7, [0, 1, 5]), (8, [0, 1, 5]), (9, [0, 1]), (1000002, [0, 1])]),
  (111, .code c111 [.val, .val] [] [(4, none)] [(0, [0, 1]), (1, [0, 1]), (2, [0, 1, 5]), (3, [0, 1, 5]), (4, [0, 1, 5]), (5, []), (6, [0, 1, 5]), (7, [1]), (1000002, [1, 4])]),
  (112, .code c112 [.val, .val] [] [(4, none)] [(0, [0, 1]), (1, [0, 1]), (2, [0, 1, 5]), (3, [0, 1, 5]), (4, [0, 1, 5]), (5, []), (6, [0, 1, 5]), (7, [0, 1, 5]), (8, []), (9, [0, 1, 5]), (10, [0, 1, 5]), (11, [0, 1, 5]), (12, []), (13, [1]), (1000002, [1, 4])]),
  (136, .code c136 [.val, .val] [] [(4, none)] [(0, [0, 1]), (1, [0, 1]), (2, []), (3, [0, 1]), (4, [0, 1, 5]), (5, [0, 1, 5]), (6, [0, 1, 5]), (7, []), (8, []), (1000004, [4])]),
  (137, .code c137 [.val, .val] [] [(4, none)] [(0, [0, 1]), (1, [0, 1]), (2, []), (3, [0, 1]), (4, [0, 1, 5]), (5, [0, 1, 5]), (6, [0, 1, 5]), (7, []), (8, []), (1000004, [4])]),
  (138, .code c138 [.val, .val] [] [(4, none)] [(0, [0, 1]), (1, [0, 1]), (2, [0, 1]), (3, [0, 1]), (4, [0, 1]), (5, [0, 1])]),
  (154, .code c154 [.val, .val] [] [(4, none)] [(0, [0, 1]), (1, [2, 3]), (2, []), (3, [2, 3]), (4, []), (5, [2, 3]), (6, []), (7, [])])]
noncomputable def E : Env := ⟨fun t => lookT tyTab t, lookF fnTab⟩
noncomputable def fdAt (n : Nat) : FD := match lookF fnTab n with
  | some d => d
  | none => .ext fun _ => none
noncomputable def keepAt (n : Nat) : List (Nat × List Nat) := match lookF fnTab n with
  | some d => d.keep
  | none => []
theorem tysOk : TysOk Try.prog E := tysOk_of (l := tyTab) (fun _ => rfl) (by kernel_rfl)
theorem ft6 : FnTab Try.prog E 6 (fdAt 6) := fnTab_code (c := c6) (modes := (fdAt 6).ms) (outs := (fdAt 6).os) (results := (fdAt 6).rs) (keep := (fdAt 6).keep) Try.func6 (by kernel_rfl) (by kernel_rfl) (by kernel_rfl)
theorem ft33 : FnTab Try.prog E 33 (fdAt 33) := fnTab_code (c := c33) (modes := (fdAt 33).ms) (outs := (fdAt 33).os) (results := (fdAt 33).rs) (keep := (fdAt 33).keep) Try.func33 (by kernel_rfl) (by kernel_rfl) (by kernel_rfl)
theorem ft34 : FnTab Try.prog E 34 (fdAt 34) := fnTab_code (c := c34) (modes := (fdAt 34).ms) (outs := (fdAt 34).os) (results := (fdAt 34).rs) (keep := (fdAt 34).keep) Try.func34 (by kernel_rfl) (by kernel_rfl) (by kernel_rfl)
theorem ft35 : FnTab Try.prog E 35 (fdAt 35) := fnTab_code (c := c35) (modes := (fdAt 35).ms) (outs := (fdAt 35).os) (results := (fdAt 35).rs) (keep := (fdAt 35).keep) Try.func35 (by kernel_rfl) (by kernel_rfl) (by kernel_rfl)
theorem ft36 : FnTab Try.prog E 36 (fdAt 36) := fnTab_code (c := c36) (modes := (fdAt 36).ms) (outs := (fdAt 36).os) (results := (fdAt 36).rs) (keep := (fdAt 36).keep) Try.func36 (by kernel_rfl) (by kernel_rfl) (by kernel_rfl)
theorem ft37 : FnTab Try.prog E 37 (fdAt 37) := fnTab_code (c := c37) (modes := (fdAt 37).ms) (outs := (fdAt 37).os) (results := (fdAt 37).rs) (keep := (fdAt 37).keep) Try.func37 (by kernel_rfl) (by kernel_rfl) (by kernel_rfl)
theorem ft73 : FnTab Try.prog E 73 (fdAt 73) := fnTab_code (c := c73) (modes := (fdAt 73).ms) (outs := (fdAt 73).os) (results := (fdAt 73).rs) (keep := (fdAt 73).keep) Try.func73 (by kernel_rfl) (by kernel_rfl) (by kernel_rfl)
theorem ft74 : FnTab Try.prog E 74 (fdAt 74) := fnTab_code (c := c74) (modes := (fdAt 74).ms) (outs := (fdAt 74).os) (results := (fdAt 74).rs) (keep := (fdAt 74).keep) Try.func74 (by kernel_rfl) (by kernel_rfl) (by kernel_rfl)
theorem ft75 : FnTab Try.prog E 75 (fdAt 75) := fnTab_code (c := c75) (modes := (fdAt 75).ms) (outs := (fdAt 75).os) (results := (fdAt 75).rs) (keep := (fdAt 75).keep) Try.func75 (by kernel_rfl) (by kernel_rfl) (by kernel_rfl)
theorem ft76 : FnTab Try.prog E 76 (fdAt 76) := fnTab_code (c := c76) (modes := (fdAt 76).ms) (outs := (fdAt 76).os) (results := (fdAt 76).rs) (keep := (fdAt 76).keep) Try.func76 (by kernel_rfl) (by kernel_rfl) (by kernel_rfl)
theorem ft77 : FnTab Try.prog E 77 (fdAt 77) := fnTab_code (c := c77) (modes := (fdAt 77).ms) (outs := (fdAt 77).os) (results := (fdAt 77).rs) (keep := (fdAt 77).keep) Try.func77 (by kernel_rfl) (by kernel_rfl) (by kernel_rfl)
theorem ft78 : FnTab Try.prog E 78 (fdAt 78) := fnTab_code (c := c78) (modes := (fdAt 78).ms) (outs := (fdAt 78).os) (results := (fdAt 78).rs) (keep := (fdAt 78).keep) Try.func78 (by kernel_rfl) (by kernel_rfl) (by kernel_rfl)
theorem ft79 : FnTab Try.prog E 79 (fdAt 79) := fnTab_code (c := c79) (modes := (fdAt 79).ms) (outs := (fdAt 79).os) (results := (fdAt 79).rs) (keep := (fdAt 79).keep) Try.func79 (by kernel_rfl) (by kernel_rfl) (by kernel_rfl)
theorem ft106 : FnTab Try.prog E 106 (fdAt 106) := fnTab_code (c := c106) (modes := (fdAt 106).ms) (outs := (fdAt 106).os) (results := (fdAt 106).rs) (keep := (fdAt 106).keep) Try.func106 (by kernel_rfl) (by kernel_rfl) (by kernel_rfl)
theorem ft107 : FnTab Try.prog E 107 (fdAt 107) := fnTab_code (c := c107) (modes := (fdAt 107).ms) (outs := (fdAt 107).os) (results := (fdAt 107).rs) (keep := (fdAt 107).keep) Try.func107 (by kernel_rfl) (by kernel_rfl) (by kernel_rfl)
theorem ft108 : FnTab Try.prog E 108 (fdAt 108) := fnTab_code (c := c108) (modes := (fdAt 108).ms) (outs := (fdAt 108).os) (results := (fdAt 108).rs) (keep := (fdAt 108).keep) Try.func108 (by kernel_rfl) (by kernel_rfl) (by kernel_rfl)
theorem ft109 : FnTab Try.prog E 109 (fdAt 109) := fnTab_code (c := c109) (modes := (fdAt 109).ms) (outs := (fdAt 109).os) (results := (fdAt 109).rs) (keep := (fdAt 109).keep) Try.func109 (by kernel_rfl) (by kernel_rfl) (by kernel_rfl)
theorem ft110 : FnTab Try.prog E 110 (fdAt 110) := fnTab_code (c := c110) (modes := (fdAt 110).ms) (outs := (fdAt 110).os) (results := (fdAt 110).rs) (keep := (fdAt 110).keep) Try.func110 (by kernel_rfl) (by kernel_rfl) (by kernel_rfl)
theorem ft111 : FnTab Try.prog E 111 (fdAt 111) := fnTab_code (c := c111) (modes := (fdAt 111).ms) (outs := (fdAt 111).os) (results := (fdAt 111).rs) (keep := (fdAt 111).keep) Try.func111 (by kernel_rfl) (by kernel_rfl) (by kernel_rfl)
theorem ft112 : FnTab Try.prog E 112 (fdAt 112) := fnTab_code (c := c112) (modes := (fdAt 112).ms) (outs := (fdAt 112).os) (results := (fdAt 112).rs) (keep := (fdAt 112).keep) Try.func112 (by kernel_rfl) (by kernel_rfl) (by kernel_rfl)
theorem ft136 : FnTab Try.prog E 136 (fdAt 136) := fnTab_code (c := c136) (modes := (fdAt 136).ms) (outs := (fdAt 136).os) (results := (fdAt 136).rs) (keep := (fdAt 136).keep) Try.func136 (by kernel_rfl) (by kernel_rfl) (by kernel_rfl)
theorem ft137 : FnTab Try.prog E 137 (fdAt 137) := fnTab_code (c := c137) (modes := (fdAt 137).ms) (outs := (fdAt 137).os) (results := (fdAt 137).rs) (keep := (fdAt 137).keep) Try.func137 (by kernel_rfl) (by kernel_rfl) (by kernel_rfl)
theorem ft138 : FnTab Try.prog E 138 (fdAt 138) := fnTab_code (c := c138) (modes := (fdAt 138).ms) (outs := (fdAt 138).os) (results := (fdAt 138).rs) (keep := (fdAt 138).keep) Try.func138 (by kernel_rfl) (by kernel_rfl) (by kernel_rfl)
theorem ft154 : FnTab Try.prog E 154 (fdAt 154) := fnTab_code (c := c154) (modes := (fdAt 154).ms) (outs := (fdAt 154).os) (results := (fdAt 154).rs) (keep := (fdAt 154).keep) Try.func154 (by kernel_rfl) (by kernel_rfl) (by kernel_rfl)
theorem allFns : AllFns Try.prog E fnTab := .cons ft6 (.cons ft33 (.cons ft34 (.cons ft35 (.cons ft36 (.cons ft37 (.cons ft73 (.cons ft74 (.cons ft75 (.cons ft76 (.cons ft77 (.cons ft78 (.cons ft79 (.cons ft106 (.cons ft107 (.cons ft108 (.cons ft109 (.cons ft110 (.cons ft111 (.cons ft112 (.cons ft136 (.cons ft137 (.cons ft138 (.cons ft154 (.nil))))))))))))))))))))))))
theorem fnOk : ∀ f fd, E.fn f = some fd → FnTab Try.prog E f fd := fnTab_of (l := fnTab) (fun _ => rfl) allFns
end Go.Proofs.Ytmomholbdekanaa.D
end
section
/- Plain functions for the law's Go functions, each tied to the reading by the kernel (printed by a program of this workplace). -/
namespace Go.Proofs.Ytmomholbdekanaa.D
open Go Go.Desk
set_option linter.unusedVariables false
def f106_s_l11Strip : Nat → Option (Nat × List T × Int × Nat × Bool × Bool)
  | 0 => none
  | n + 1 =>
    some (0, (reps 0 [(T.int IntKind.i64 (0 : Int)), (T.int IntKind.i64 (0 : Int)), (T.lst 0 [])]), (0 : Int), 1056964608, false, false)
def sg : Sig (Unit) where
  pk := fun v => []
  up := fun ls => match ls with
    | [] => some ()
    | _ => none
  ok := by
    intro ls v h
    split at h
    · cases h; rfl
    · cases h

def sg_lifbb : Sig (Nat × List T × Int × Nat × Bool × Bool) where
  pk := fun v => [.lst v.1 v.2.1, .int v.2.2.1, .flt v.2.2.2.1, .bool v.2.2.2.2.1, .bool v.2.2.2.2.2]
  up := fun ls => match ls with
    | [.lst a0 a1, .int a2, .flt a3, .bool a4, .bool a5] => some (a0, a1, a2, a3, a4, a5)
    | _ => none
  ok := by
    intro ls v h
    split at h
    · cases h; rfl
    · cases h

def f106_s_l11Strip.P : List Arg := []
def f106_s_l11Strip.A : RAlt (Nat × List T × Int × Nat × Bool × Bool) := .one ⟨[⟨true, [.sl .own [.leaf, .leaf, .sl .own [.leaf]], .leaf, .leaf, .leaf, .leaf], [.lst 0 [], .int .i64 0, .flt .f32 0, .bool false, .bool false]⟩], []⟩ sg_lifbb
def f106_s_l11Strip.F (n : Nat) (v : Unit) := f106_s_l11Strip n
noncomputable def f106_s_l11Strip.O (n : Nat) : Orc := orcOf (E := E) [] [] n
theorem f106_s_l11Strip.ok : ∀ n v x, f106_s_l11Strip.F n v = some x → evalFn E n 106 (flAs f106_s_l11Strip.P (sg.pk v)) = some (f106_s_l11Strip.A.enc x) :=
  fn_pure (modes := (fdAt 106).ms) (outs := (fdAt 106).os) (results := (fdAt 106).rs) f106_s_l11Strip.O (c := c106) (keep := keepAt 106) (by kernel_rfl) (fun n => orcOf_cf _ _ n) (fun n => lpOk_of (bs := []) (by kernel_rfl) .nil) (fun _ => rfl) (fun _ _ => by kernel_rfl)
noncomputable def f106_s_l11Strip.w : FnW E := fnW 106 f106_s_l11Strip.P sg f106_s_l11Strip.A f106_s_l11Strip.F f106_s_l11Strip.ok

def f73_s_l11New : Nat → Option (Nat × List T × Nat × List T)
  | 0 => none
  | n + 1 =>
    bd (f106_s_l11Strip n) fun r1 =>
    let n2 : Nat := r1.1
    let l3 : List T := r1.2.1
    let i4 : Int := r1.2.2.1
    let x5 : Nat := r1.2.2.2.1
    let b6 : Bool := r1.2.2.2.2.1
    let b7 : Bool := r1.2.2.2.2.2
    some (0, (reps 0 [(T.int IntKind.i64 (0 : Int)), (T.int IntKind.i64 (0 : Int)), (T.lst 0 [])]), 1, (setN (reps 1 [(T.lst 0 []), (T.int IntKind.i64 (0 : Int)), (T.flt FloatKind.f32 0), (T.bool false), (T.bool false)]) 0 [(T.lst n2 l3), (T.int IntKind.i64 i4), (T.flt FloatKind.f32 x5), (T.bool b6), (T.bool b7)]))
def sg_ll : Sig (Nat × List T × Nat × List T) where
  pk := fun v => [.lst v.1 v.2.1, .lst v.2.2.1 v.2.2.2]
  up := fun ls => match ls with
    | [.lst a0 a1, .lst a2 a3] => some (a0, a1, a2, a3)
    | _ => none
  ok := by
    intro ls v h
    split at h
    · cases h; rfl
    · cases h

def f73_s_l11New.P : List Arg := []
def f73_s_l11New.A : RAlt (Nat × List T × Nat × List T) := .one ⟨[⟨true, [.sl .own [.leaf, .leaf, .sl .own [.leaf]], .sl .own [.sl .own [.leaf, .leaf, .sl .own [.leaf]], .leaf, .leaf, .leaf, .leaf]], [.lst 0 [], .lst 0 []]⟩], []⟩ sg_ll
def f73_s_l11New.F (n : Nat) (v : Unit) := f73_s_l11New n
noncomputable def f73_s_l11New.O (n : Nat) : Orc := orcOf (E := E) [f106_s_l11Strip.w] [] n
theorem f73_s_l11New.ok : ∀ n v x, f73_s_l11New.F n v = some x → evalFn E n 73 (flAs f73_s_l11New.P (sg.pk v)) = some (f73_s_l11New.A.enc x) :=
  fn_pure (modes := (fdAt 73).ms) (outs := (fdAt 73).os) (results := (fdAt 73).rs) f73_s_l11New.O (c := c73) (keep := keepAt 73) (by kernel_rfl) (fun n => orcOf_cf _ _ n) (fun n => lpOk_of (bs := []) (by kernel_rfl) .nil) (fun _ => rfl) (fun _ _ => by kernel_rfl)
noncomputable def f73_s_l11New.w : FnW E := fnW 73 f73_s_l11New.P sg f73_s_l11New.A f73_s_l11New.F f73_s_l11New.ok

def f33_s_EmptySession : Nat → Option (Nat × List T × Nat × List T)
  | 0 => none
  | n + 1 =>
    bd (f73_s_l11New n) fun r1 =>
    let n2 : Nat := r1.1
    let l3 : List T := r1.2.1
    let n4 : Nat := r1.2.2.1
    let l5 : List T := r1.2.2.2
    some (n2, l3, n4, l5)
def f33_s_EmptySession.P : List Arg := []
def f33_s_EmptySession.A : RAlt (Nat × List T × Nat × List T) := .one ⟨[⟨true, [.sl .own [.leaf, .leaf, .sl .own [.leaf]], .sl .own [.sl .own [.leaf, .leaf, .sl .own [.leaf]], .leaf, .leaf, .leaf, .leaf]], [.lst 0 [], .lst 0 []]⟩], []⟩ sg_ll
def f33_s_EmptySession.F (n : Nat) (v : Unit) := f33_s_EmptySession n
noncomputable def f33_s_EmptySession.O (n : Nat) : Orc := orcOf (E := E) [f73_s_l11New.w] [] n
theorem f33_s_EmptySession.ok : ∀ n v x, f33_s_EmptySession.F n v = some x → evalFn E n 33 (flAs f33_s_EmptySession.P (sg.pk v)) = some (f33_s_EmptySession.A.enc x) :=
  fn_pure (modes := (fdAt 33).ms) (outs := (fdAt 33).os) (results := (fdAt 33).rs) f33_s_EmptySession.O (c := c33) (keep := keepAt 33) (by kernel_rfl) (fun n => orcOf_cf _ _ n) (fun n => lpOk_of (bs := []) (by kernel_rfl) .nil) (fun _ => rfl) (fun _ _ => by kernel_rfl)
noncomputable def f33_s_EmptySession.w : FnW E := fnW 33 f33_s_EmptySession.P sg f33_s_EmptySession.A f33_s_EmptySession.F f33_s_EmptySession.ok

def f34_i_EmptySession : Nat → Option (Nat × List T × Nat × List T)
  | 0 => none
  | n + 1 =>
    some (0, [], 1, (setN (reps 1 [(T.lst 0 []), (T.int IntKind.i64 (0 : Int)), (T.flt FloatKind.f32 0), (T.bool false), (T.bool false)]) 0 (setN [(T.lst 0 []), (T.int IntKind.i64 (0 : Int)), (T.flt FloatKind.f32 0), (T.bool false), (T.bool false)] 2 [(T.flt FloatKind.f32 1056964608)])))
def f34_i_EmptySession.P : List Arg := []
def f34_i_EmptySession.A : RAlt (Nat × List T × Nat × List T) := .one ⟨[⟨true, [.sl .own [.leaf, .leaf, .sl .own [.leaf]], .sl .own [.sl .own [.leaf, .leaf, .sl .own [.leaf]], .leaf, .leaf, .leaf, .leaf]], [.lst 0 [], .lst 0 []]⟩], []⟩ sg_ll
def f34_i_EmptySession.F (n : Nat) (v : Unit) := f34_i_EmptySession n
noncomputable def f34_i_EmptySession.O (n : Nat) : Orc := orcOf (E := E) [] [] n
theorem f34_i_EmptySession.ok : ∀ n v x, f34_i_EmptySession.F n v = some x → evalFn E n 34 (flAs f34_i_EmptySession.P (sg.pk v)) = some (f34_i_EmptySession.A.enc x) :=
  fn_pure (modes := (fdAt 34).ms) (outs := (fdAt 34).os) (results := (fdAt 34).rs) f34_i_EmptySession.O (c := c34) (keep := keepAt 34) (by kernel_rfl) (fun n => orcOf_cf _ _ n) (fun n => lpOk_of (bs := []) (by kernel_rfl) .nil) (fun _ => rfl) (fun _ _ => by kernel_rfl)
noncomputable def f34_i_EmptySession.w : FnW E := fnW 34 f34_i_EmptySession.P sg f34_i_EmptySession.A f34_i_EmptySession.F f34_i_EmptySession.ok

def f138_l_sameFloat : Nat → Nat → Nat → Option (Bool)
  | 0, _, _ => none
  | n + 1, x1, x2 =>
    br (fne FloatKind.f64 x1 x1) (
     br (fne FloatKind.f64 x1 x1) (
      some (fne FloatKind.f64 x2 x2)) (
      some false)) (
     br (fne FloatKind.f64 x2 x2) (
      br (fne FloatKind.f64 x1 x1) (
       some (fne FloatKind.f64 x2 x2)) (
       some false)) (
      br (feq FloatKind.f64 x1 0) (
       br (feq FloatKind.f64 x2 0) (
        some ((fgt FloatKind.f64 (fdiv FloatKind.f64 4607182418800017408 x1) 0) == (fgt FloatKind.f64 (fdiv FloatKind.f64 4607182418800017408 x2) 0))) (
        some (feq FloatKind.f64 x1 x2))) (
       some (feq FloatKind.f64 x1 x2))))
def sg_ff : Sig (Nat × Nat) where
  pk := fun v => [.flt v.1, .flt v.2]
  up := fun ls => match ls with
    | [.flt a0, .flt a1] => some (a0, a1)
    | _ => none
  ok := by
    intro ls v h
    split at h
    · cases h; rfl
    · cases h

def sg_b : Sig (Bool) where
  pk := fun v => [.bool v]
  up := fun ls => match ls with
    | [.bool a0] => some a0
    | _ => none
  ok := by
    intro ls v h
    split at h
    · cases h; rfl
    · cases h

def f138_l_sameFloat.P : List Arg := [⟨.val, ⟨false, [.leaf], [.flt .f64 0]⟩⟩, ⟨.val, ⟨false, [.leaf], [.flt .f64 0]⟩⟩]
def f138_l_sameFloat.A : RAlt (Bool) := .one ⟨[⟨false, [.leaf], [.bool false]⟩], [none, none]⟩ sg_b
def f138_l_sameFloat.F (n : Nat) (v : Nat × Nat) := f138_l_sameFloat n v.1 v.2
noncomputable def f138_l_sameFloat.O (n : Nat) : Orc := orcOf (E := E) [] [] n
theorem f138_l_sameFloat.ok : ∀ n v x, f138_l_sameFloat.F n v = some x → evalFn E n 138 (flAs f138_l_sameFloat.P (sg_ff.pk v)) = some (f138_l_sameFloat.A.enc x) :=
  fn_pure (modes := (fdAt 138).ms) (outs := (fdAt 138).os) (results := (fdAt 138).rs) f138_l_sameFloat.O (c := c138) (keep := keepAt 138) (by kernel_rfl) (fun n => orcOf_cf _ _ n) (fun n => lpOk_of (bs := []) (by kernel_rfl) .nil) (fun _ => rfl) (fun _ _ => by kernel_rfl)
noncomputable def f138_l_sameFloat.w : FnW E := fnW 138 f138_l_sameFloat.P sg_ff f138_l_sameFloat.A f138_l_sameFloat.F f138_l_sameFloat.ok

def f136_l_eqFloat32S.l0 (n : Nat) : Nat → Nat → List T → Nat → List T → Int → Option ((Bool) ⊕ (Unit))
  | 0, _, _, _, _, _ => none
  | m + 1, n1, l2, n3, l4, i5 =>
    br (decide (i5 < ((n1 : Nat) : Int))) (
     gd ((decide (((0 : Int) ≤ i5) ∧ (i5 < ((n1 : Nat) : Int)))) && (okAt [(CK.flt FloatKind.f32)] l2 (Int.toNat i5))) (
     bd ((fltToFlt FloatKind.f32 (fAt l2 (Int.toNat i5)) FloatKind.f64)) fun y6 =>
     gd ((decide (((0 : Int) ≤ i5) ∧ (i5 < ((n3 : Nat) : Int)))) && (okAt [(CK.flt FloatKind.f32)] l4 (Int.toNat i5))) (
     bd ((fltToFlt FloatKind.f32 (fAt l4 (Int.toNat i5)) FloatKind.f64)) fun y7 =>
     bd (f138_l_sameFloat n y6 y7) fun r8 =>
     let b9 : Bool := r8
     br (!b9) (
      some (Sum.inl false)) (
      f136_l_eqFloat32S.l0 n m n1 l2 n3 l4 (IntKind.i64.wrap (i5 + (1 : Int))))))) (
     some (Sum.inr ()))
def f136_l_eqFloat32S : Nat → Nat → List T → Nat → List T → Option (Bool)
  | 0, _, _, _, _ => none
  | n + 1, n1, l2, n3, l4 =>
    br (((n1 : Nat) : Int) != ((n3 : Nat) : Int)) (
     some false) (
     bd (f136_l_eqFloat32S.l0 n n n1 l2 n3 l4 (0 : Int)) fun r5 =>
     sm r5 (fun u6 =>
      let b7 : Bool := u6
      some b7) (fun u8 =>
      some true))
def sg_lli : Sig (Nat × List T × Nat × List T × Int) where
  pk := fun v => [.lst v.1 v.2.1, .lst v.2.2.1 v.2.2.2.1, .int v.2.2.2.2]
  up := fun ls => match ls with
    | [.lst a0 a1, .lst a2 a3, .int a4] => some (a0, a1, a2, a3, a4)
    | _ => none
  ok := by
    intro ls v h
    split at h
    · cases h; rfl
    · cases h

def f136_l_eqFloat32S.l0.P : AS := ⟨[(0, .val false [.sl .shr [.leaf]] [.lst 0 []] [] 0), (1, .val false [.sl .shr [.leaf]] [.lst 0 []] [] 0), (5, .val false [.leaf] [.int .i64 0] [] 0)], 0⟩
def f136_l_eqFloat32S.l0.A : Alt ((Bool) ⊕ (Unit)) := .or (.one .ret ⟨[(4, .val false [.leaf] [.bool false] [] 0)], 0⟩ sg_b) (.one (.exit 0) ⟨[(4, .dead)], 0⟩ sg)
def f136_l_eqFloat32S.l0.F (n m : Nat) (v : Nat × List T × Nat × List T × Int) := f136_l_eqFloat32S.l0 n m v.1 v.2.1 v.2.2.1 v.2.2.2.1 v.2.2.2.2
def f136_l_eqFloat32S.l0.W (n : Nat) : LpW := .of 64 f136_l_eqFloat32S.l0.P sg_lli f136_l_eqFloat32S.l0.A (f136_l_eqFloat32S.l0.F n n)
def f136_l_eqFloat32S.P : List Arg := [⟨.val, ⟨false, [.sl .shr [.leaf]], [.lst 0 []]⟩⟩, ⟨.val, ⟨false, [.sl .shr [.leaf]], [.lst 0 []]⟩⟩]
def f136_l_eqFloat32S.A : RAlt (Bool) := .one ⟨[⟨false, [.leaf], [.bool false]⟩], [none, none]⟩ sg_b
def f136_l_eqFloat32S.F (n : Nat) (v : Nat × List T × Nat × List T) := f136_l_eqFloat32S n v.1 v.2.1 v.2.2.1 v.2.2.2
noncomputable def f136_l_eqFloat32S.O (n : Nat) : Orc := orcOf (E := E) [f138_l_sameFloat.w] [f136_l_eqFloat32S.l0.W n] n
theorem f136_l_eqFloat32S.l0.ok (n : Nat) : LpOk (f136_l_eqFloat32S.O n) E (evalFn E n) n (keepAt 136) (.loop (loopAt c136 0)) :=
  lp_pure f136_l_eqFloat32S.l0.P sg_lli f136_l_eqFloat32S.l0.A (f136_l_eqFloat32S.l0.F n) (orcOf_cf _ _ n) (lpOk_of (bs := []) (by kernel_rfl) .nil) (fun _ => rfl) (fun _ _ => by kernel_rfl) (fun _ _ _ => by kernel_rfl)
theorem f136_l_eqFloat32S.ok : ∀ n v x, f136_l_eqFloat32S.F n v = some x → evalFn E n 136 (flAs f136_l_eqFloat32S.P (sg_ll.pk v)) = some (f136_l_eqFloat32S.A.enc x) :=
  fn_pure (modes := (fdAt 136).ms) (outs := (fdAt 136).os) (results := (fdAt 136).rs) f136_l_eqFloat32S.O (c := c136) (keep := keepAt 136) (by kernel_rfl) (fun n => orcOf_cf _ _ n) (fun n => lpOk_of (bs := [loopAt c136 0]) (by kernel_rfl) (.cons (f136_l_eqFloat32S.l0.ok n) .nil)) (fun _ => rfl) (fun _ _ => by kernel_rfl)
noncomputable def f136_l_eqFloat32S.w : FnW E := fnW 136 f136_l_eqFloat32S.P sg_ll f136_l_eqFloat32S.A f136_l_eqFloat32S.F f136_l_eqFloat32S.ok

def f107_l_eqClip : Nat → Int → Int → Nat → List T → Int → Int → Nat → List T → Option (Bool)
  | 0, _, _, _, _, _, _, _, _ => none
  | n + 1, i1, i2, n3, l4, i5, i6, n7, l8 =>
    br (i1 != i5) (
     some false) (
     br (i2 != i6) (
      some false) (
      bd (f136_l_eqFloat32S n n3 l4 n7 l8) fun r9 =>
      let b10 : Bool := r9
      br (!b10) (
       some false) (
       some true)))
def sg_iiliil : Sig (Int × Int × Nat × List T × Int × Int × Nat × List T) where
  pk := fun v => [.int v.1, .int v.2.1, .lst v.2.2.1 v.2.2.2.1, .int v.2.2.2.2.1, .int v.2.2.2.2.2.1, .lst v.2.2.2.2.2.2.1 v.2.2.2.2.2.2.2]
  up := fun ls => match ls with
    | [.int a0, .int a1, .lst a2 a3, .int a4, .int a5, .lst a6 a7] => some (a0, a1, a2, a3, a4, a5, a6, a7)
    | _ => none
  ok := by
    intro ls v h
    split at h
    · cases h; rfl
    · cases h

def f107_l_eqClip.P : List Arg := [⟨.val, ⟨true, [.leaf, .leaf, .sl .shr [.leaf]], [.int .i64 0, .int .i64 0, .lst 0 []]⟩⟩, ⟨.val, ⟨true, [.leaf, .leaf, .sl .shr [.leaf]], [.int .i64 0, .int .i64 0, .lst 0 []]⟩⟩]
def f107_l_eqClip.A : RAlt (Bool) := .one ⟨[⟨false, [.leaf], [.bool false]⟩], [none, none]⟩ sg_b
def f107_l_eqClip.F (n : Nat) (v : Int × Int × Nat × List T × Int × Int × Nat × List T) := f107_l_eqClip n v.1 v.2.1 v.2.2.1 v.2.2.2.1 v.2.2.2.2.1 v.2.2.2.2.2.1 v.2.2.2.2.2.2.1 v.2.2.2.2.2.2.2
noncomputable def f107_l_eqClip.O (n : Nat) : Orc := orcOf (E := E) [f136_l_eqFloat32S.w] [] n
theorem f107_l_eqClip.ok : ∀ n v x, f107_l_eqClip.F n v = some x → evalFn E n 107 (flAs f107_l_eqClip.P (sg_iiliil.pk v)) = some (f107_l_eqClip.A.enc x) :=
  fn_pure (modes := (fdAt 107).ms) (outs := (fdAt 107).os) (results := (fdAt 107).rs) f107_l_eqClip.O (c := c107) (keep := keepAt 107) (by kernel_rfl) (fun n => orcOf_cf _ _ n) (fun n => lpOk_of (bs := []) (by kernel_rfl) .nil) (fun _ => rfl) (fun _ _ => by kernel_rfl)
noncomputable def f107_l_eqClip.w : FnW E := fnW 107 f107_l_eqClip.P sg_iiliil f107_l_eqClip.A f107_l_eqClip.F f107_l_eqClip.ok

def f74_l_eqClipS.l0 (n : Nat) : Nat → Nat → List T → Nat → List T → Int → Option ((Bool) ⊕ (Unit))
  | 0, _, _, _, _, _ => none
  | m + 1, n1, l2, n3, l4, i5 =>
    br (decide (i5 < ((n1 : Nat) : Int))) (
     gd ((decide (((0 : Int) ≤ i5) ∧ (i5 < ((n1 : Nat) : Int)))) && (okAt [(CK.int IntKind.i64), (CK.int IntKind.i64), CK.lst] l2 (((Int.toNat i5) * 3) + 0))) (
     gd ((decide (((0 : Int) ≤ i5) ∧ (i5 < ((n3 : Nat) : Int)))) && (okAt [(CK.int IntKind.i64), (CK.int IntKind.i64), CK.lst] l4 (((Int.toNat i5) * 3) + 0))) (
     bd (f107_l_eqClip n (iAt l2 (((Int.toNat i5) * 3) + 0)) (iAt l2 ((((Int.toNat i5) * 3) + 0) + 1)) (nAt l2 (((((Int.toNat i5) * 3) + 0) + 1) + 1)) (lAt l2 (((((Int.toNat i5) * 3) + 0) + 1) + 1)) (iAt l4 (((Int.toNat i5) * 3) + 0)) (iAt l4 ((((Int.toNat i5) * 3) + 0) + 1)) (nAt l4 (((((Int.toNat i5) * 3) + 0) + 1) + 1)) (lAt l4 (((((Int.toNat i5) * 3) + 0) + 1) + 1))) fun r6 =>
     let b7 : Bool := r6
     br (!b7) (
      some (Sum.inl false)) (
      f74_l_eqClipS.l0 n m n1 l2 n3 l4 (IntKind.i64.wrap (i5 + (1 : Int))))))) (
     some (Sum.inr ()))
def f74_l_eqClipS : Nat → Nat → List T → Nat → List T → Option (Bool)
  | 0, _, _, _, _ => none
  | n + 1, n1, l2, n3, l4 =>
    br (((n1 : Nat) : Int) != ((n3 : Nat) : Int)) (
     some false) (
     bd (f74_l_eqClipS.l0 n n n1 l2 n3 l4 (0 : Int)) fun r5 =>
     sm r5 (fun u6 =>
      let b7 : Bool := u6
      some b7) (fun u8 =>
      some true))
def f74_l_eqClipS.l0.P : AS := ⟨[(0, .val false [.sl .shr [.leaf, .leaf, .sl .shr [.leaf]]] [.lst 0 []] [] 0), (1, .val false [.sl .shr [.leaf, .leaf, .sl .shr [.leaf]]] [.lst 0 []] [] 0), (5, .val false [.leaf] [.int .i64 0] [] 0)], 0⟩
def f74_l_eqClipS.l0.A : Alt ((Bool) ⊕ (Unit)) := .or (.one .ret ⟨[(4, .val false [.leaf] [.bool false] [] 0)], 0⟩ sg_b) (.one (.exit 0) ⟨[(4, .dead)], 0⟩ sg)
def f74_l_eqClipS.l0.F (n m : Nat) (v : Nat × List T × Nat × List T × Int) := f74_l_eqClipS.l0 n m v.1 v.2.1 v.2.2.1 v.2.2.2.1 v.2.2.2.2
def f74_l_eqClipS.l0.W (n : Nat) : LpW := .of 64 f74_l_eqClipS.l0.P sg_lli f74_l_eqClipS.l0.A (f74_l_eqClipS.l0.F n n)
def f74_l_eqClipS.P : List Arg := [⟨.val, ⟨false, [.sl .shr [.leaf, .leaf, .sl .shr [.leaf]]], [.lst 0 []]⟩⟩, ⟨.val, ⟨false, [.sl .shr [.leaf, .leaf, .sl .shr [.leaf]]], [.lst 0 []]⟩⟩]
def f74_l_eqClipS.A : RAlt (Bool) := .one ⟨[⟨false, [.leaf], [.bool false]⟩], [none, none]⟩ sg_b
def f74_l_eqClipS.F (n : Nat) (v : Nat × List T × Nat × List T) := f74_l_eqClipS n v.1 v.2.1 v.2.2.1 v.2.2.2
noncomputable def f74_l_eqClipS.O (n : Nat) : Orc := orcOf (E := E) [f107_l_eqClip.w] [f74_l_eqClipS.l0.W n] n
theorem f74_l_eqClipS.l0.ok (n : Nat) : LpOk (f74_l_eqClipS.O n) E (evalFn E n) n (keepAt 74) (.loop (loopAt c74 0)) :=
  lp_pure f74_l_eqClipS.l0.P sg_lli f74_l_eqClipS.l0.A (f74_l_eqClipS.l0.F n) (orcOf_cf _ _ n) (lpOk_of (bs := []) (by kernel_rfl) .nil) (fun _ => rfl) (fun _ _ => by kernel_rfl) (fun _ _ _ => by kernel_rfl)
theorem f74_l_eqClipS.ok : ∀ n v x, f74_l_eqClipS.F n v = some x → evalFn E n 74 (flAs f74_l_eqClipS.P (sg_ll.pk v)) = some (f74_l_eqClipS.A.enc x) :=
  fn_pure (modes := (fdAt 74).ms) (outs := (fdAt 74).os) (results := (fdAt 74).rs) f74_l_eqClipS.O (c := c74) (keep := keepAt 74) (by kernel_rfl) (fun n => orcOf_cf _ _ n) (fun n => lpOk_of (bs := [loopAt c74 0]) (by kernel_rfl) (.cons (f74_l_eqClipS.l0.ok n) .nil)) (fun _ => rfl) (fun _ _ => by kernel_rfl)
noncomputable def f74_l_eqClipS.w : FnW E := fnW 74 f74_l_eqClipS.P sg_ll f74_l_eqClipS.A f74_l_eqClipS.F f74_l_eqClipS.ok

def f154_l_eqEffect : Nat → Int → Int → Nat → List T → Int → Int → Nat → List T → Option (Bool)
  | 0, _, _, _, _, _, _, _, _ => none
  | n + 1, i1, i2, n3, l4, i5, i6, n7, l8 =>
    br (i1 != i5) (
     some false) (
     br (i2 != i6) (
      some false) (
      bd (f136_l_eqFloat32S n n3 l4 n7 l8) fun r9 =>
      let b10 : Bool := r9
      br (!b10) (
       some false) (
       some true)))
def f154_l_eqEffect.P : List Arg := [⟨.val, ⟨true, [.leaf, .leaf, .sl .shr [.leaf]], [.int .i64 0, .int .i64 0, .lst 0 []]⟩⟩, ⟨.val, ⟨true, [.leaf, .leaf, .sl .shr [.leaf]], [.int .i64 0, .int .i64 0, .lst 0 []]⟩⟩]
def f154_l_eqEffect.A : RAlt (Bool) := .one ⟨[⟨false, [.leaf], [.bool false]⟩], [none, none]⟩ sg_b
def f154_l_eqEffect.F (n : Nat) (v : Int × Int × Nat × List T × Int × Int × Nat × List T) := f154_l_eqEffect n v.1 v.2.1 v.2.2.1 v.2.2.2.1 v.2.2.2.2.1 v.2.2.2.2.2.1 v.2.2.2.2.2.2.1 v.2.2.2.2.2.2.2
noncomputable def f154_l_eqEffect.O (n : Nat) : Orc := orcOf (E := E) [f136_l_eqFloat32S.w] [] n
theorem f154_l_eqEffect.ok : ∀ n v x, f154_l_eqEffect.F n v = some x → evalFn E n 154 (flAs f154_l_eqEffect.P (sg_iiliil.pk v)) = some (f154_l_eqEffect.A.enc x) :=
  fn_pure (modes := (fdAt 154).ms) (outs := (fdAt 154).os) (results := (fdAt 154).rs) f154_l_eqEffect.O (c := c154) (keep := keepAt 154) (by kernel_rfl) (fun n => orcOf_cf _ _ n) (fun n => lpOk_of (bs := []) (by kernel_rfl) .nil) (fun _ => rfl) (fun _ _ => by kernel_rfl)
noncomputable def f154_l_eqEffect.w : FnW E := fnW 154 f154_l_eqEffect.P sg_iiliil f154_l_eqEffect.A f154_l_eqEffect.F f154_l_eqEffect.ok

def f137_l_eqEffectS.l0 (n : Nat) : Nat → Nat → List T → Nat → List T → Int → Option ((Bool) ⊕ (Unit))
  | 0, _, _, _, _, _ => none
  | m + 1, n1, l2, n3, l4, i5 =>
    br (decide (i5 < ((n1 : Nat) : Int))) (
     gd ((decide (((0 : Int) ≤ i5) ∧ (i5 < ((n1 : Nat) : Int)))) && (okAt [(CK.int IntKind.i64), (CK.int IntKind.i64), CK.lst] l2 (((Int.toNat i5) * 3) + 0))) (
     gd ((decide (((0 : Int) ≤ i5) ∧ (i5 < ((n3 : Nat) : Int)))) && (okAt [(CK.int IntKind.i64), (CK.int IntKind.i64), CK.lst] l4 (((Int.toNat i5) * 3) + 0))) (
     bd (f154_l_eqEffect n (iAt l2 (((Int.toNat i5) * 3) + 0)) (iAt l2 ((((Int.toNat i5) * 3) + 0) + 1)) (nAt l2 (((((Int.toNat i5) * 3) + 0) + 1) + 1)) (lAt l2 (((((Int.toNat i5) * 3) + 0) + 1) + 1)) (iAt l4 (((Int.toNat i5) * 3) + 0)) (iAt l4 ((((Int.toNat i5) * 3) + 0) + 1)) (nAt l4 (((((Int.toNat i5) * 3) + 0) + 1) + 1)) (lAt l4 (((((Int.toNat i5) * 3) + 0) + 1) + 1))) fun r6 =>
     let b7 : Bool := r6
     br (!b7) (
      some (Sum.inl false)) (
      f137_l_eqEffectS.l0 n m n1 l2 n3 l4 (IntKind.i64.wrap (i5 + (1 : Int))))))) (
     some (Sum.inr ()))
def f137_l_eqEffectS : Nat → Nat → List T → Nat → List T → Option (Bool)
  | 0, _, _, _, _ => none
  | n + 1, n1, l2, n3, l4 =>
    br (((n1 : Nat) : Int) != ((n3 : Nat) : Int)) (
     some false) (
     bd (f137_l_eqEffectS.l0 n n n1 l2 n3 l4 (0 : Int)) fun r5 =>
     sm r5 (fun u6 =>
      let b7 : Bool := u6
      some b7) (fun u8 =>
      some true))
def f137_l_eqEffectS.l0.P : AS := ⟨[(0, .val false [.sl .shr [.leaf, .leaf, .sl .shr [.leaf]]] [.lst 0 []] [] 0), (1, .val false [.sl .shr [.leaf, .leaf, .sl .shr [.leaf]]] [.lst 0 []] [] 0), (5, .val false [.leaf] [.int .i64 0] [] 0)], 0⟩
def f137_l_eqEffectS.l0.A : Alt ((Bool) ⊕ (Unit)) := .or (.one .ret ⟨[(4, .val false [.leaf] [.bool false] [] 0)], 0⟩ sg_b) (.one (.exit 0) ⟨[(4, .dead)], 0⟩ sg)
def f137_l_eqEffectS.l0.F (n m : Nat) (v : Nat × List T × Nat × List T × Int) := f137_l_eqEffectS.l0 n m v.1 v.2.1 v.2.2.1 v.2.2.2.1 v.2.2.2.2
def f137_l_eqEffectS.l0.W (n : Nat) : LpW := .of 64 f137_l_eqEffectS.l0.P sg_lli f137_l_eqEffectS.l0.A (f137_l_eqEffectS.l0.F n n)
def f137_l_eqEffectS.P : List Arg := [⟨.val, ⟨false, [.sl .shr [.leaf, .leaf, .sl .shr [.leaf]]], [.lst 0 []]⟩⟩, ⟨.val, ⟨false, [.sl .shr [.leaf, .leaf, .sl .shr [.leaf]]], [.lst 0 []]⟩⟩]
def f137_l_eqEffectS.A : RAlt (Bool) := .one ⟨[⟨false, [.leaf], [.bool false]⟩], [none, none]⟩ sg_b
def f137_l_eqEffectS.F (n : Nat) (v : Nat × List T × Nat × List T) := f137_l_eqEffectS n v.1 v.2.1 v.2.2.1 v.2.2.2
noncomputable def f137_l_eqEffectS.O (n : Nat) : Orc := orcOf (E := E) [f154_l_eqEffect.w] [f137_l_eqEffectS.l0.W n] n
theorem f137_l_eqEffectS.l0.ok (n : Nat) : LpOk (f137_l_eqEffectS.O n) E (evalFn E n) n (keepAt 137) (.loop (loopAt c137 0)) :=
  lp_pure f137_l_eqEffectS.l0.P sg_lli f137_l_eqEffectS.l0.A (f137_l_eqEffectS.l0.F n) (orcOf_cf _ _ n) (lpOk_of (bs := []) (by kernel_rfl) .nil) (fun _ => rfl) (fun _ _ => by kernel_rfl) (fun _ _ _ => by kernel_rfl)
theorem f137_l_eqEffectS.ok : ∀ n v x, f137_l_eqEffectS.F n v = some x → evalFn E n 137 (flAs f137_l_eqEffectS.P (sg_ll.pk v)) = some (f137_l_eqEffectS.A.enc x) :=
  fn_pure (modes := (fdAt 137).ms) (outs := (fdAt 137).os) (results := (fdAt 137).rs) f137_l_eqEffectS.O (c := c137) (keep := keepAt 137) (by kernel_rfl) (fun n => orcOf_cf _ _ n) (fun n => lpOk_of (bs := [loopAt c137 0]) (by kernel_rfl) (.cons (f137_l_eqEffectS.l0.ok n) .nil)) (fun _ => rfl) (fun _ _ => by kernel_rfl)
noncomputable def f137_l_eqEffectS.w : FnW E := fnW 137 f137_l_eqEffectS.P sg_ll f137_l_eqEffectS.A f137_l_eqEffectS.F f137_l_eqEffectS.ok

def f108_l_eqStrip : Nat → Nat → List T → Int → Nat → Bool → Bool → Nat → List T → Int → Nat → Bool → Bool → Option (Bool)
  | 0, _, _, _, _, _, _, _, _, _, _, _, _ => none
  | n + 1, n1, l2, i3, x4, b5, b6, n7, l8, i9, x10, b11, b12 =>
    bd (f137_l_eqEffectS n n1 l2 n7 l8) fun r13 =>
    let b14 : Bool := r13
    br (!b14) (
     some false) (
     br (i3 != i9) (
      some false) (
      bd ((fltToFlt FloatKind.f32 x4 FloatKind.f64)) fun y15 =>
      bd ((fltToFlt FloatKind.f32 x10 FloatKind.f64)) fun y16 =>
      bd (f138_l_sameFloat n y15 y16) fun r17 =>
      let b18 : Bool := r17
      br (!b18) (
       some false) (
       br (!(b5 == b11)) (
        some false) (
        br (!(b6 == b12)) (
         some false) (
         some true)))))
def sg_lifbblifbb : Sig (Nat × List T × Int × Nat × Bool × Bool × Nat × List T × Int × Nat × Bool × Bool) where
  pk := fun v => [.lst v.1 v.2.1, .int v.2.2.1, .flt v.2.2.2.1, .bool v.2.2.2.2.1, .bool v.2.2.2.2.2.1, .lst v.2.2.2.2.2.2.1 v.2.2.2.2.2.2.2.1, .int v.2.2.2.2.2.2.2.2.1, .flt v.2.2.2.2.2.2.2.2.2.1, .bool v.2.2.2.2.2.2.2.2.2.2.1, .bool v.2.2.2.2.2.2.2.2.2.2.2]
  up := fun ls => match ls with
    | [.lst a0 a1, .int a2, .flt a3, .bool a4, .bool a5, .lst a6 a7, .int a8, .flt a9, .bool a10, .bool a11] => some (a0, a1, a2, a3, a4, a5, a6, a7, a8, a9, a10, a11)
    | _ => none
  ok := by
    intro ls v h
    split at h
    · cases h; rfl
    · cases h

def f108_l_eqStrip.P : List Arg := [⟨.val, ⟨true, [.sl .shr [.leaf, .leaf, .sl .shr [.leaf]], .leaf, .leaf, .leaf, .leaf], [.lst 0 [], .int .i64 0, .flt .f32 0, .bool false, .bool false]⟩⟩, ⟨.val, ⟨true, [.sl .shr [.leaf, .leaf, .sl .shr [.leaf]], .leaf, .leaf, .leaf, .leaf], [.lst 0 [], .int .i64 0, .flt .f32 0, .bool false, .bool false]⟩⟩]
def f108_l_eqStrip.A : RAlt (Bool) := .one ⟨[⟨false, [.leaf], [.bool false]⟩], [none, none]⟩ sg_b
def f108_l_eqStrip.F (n : Nat) (v : Nat × List T × Int × Nat × Bool × Bool × Nat × List T × Int × Nat × Bool × Bool) := f108_l_eqStrip n v.1 v.2.1 v.2.2.1 v.2.2.2.1 v.2.2.2.2.1 v.2.2.2.2.2.1 v.2.2.2.2.2.2.1 v.2.2.2.2.2.2.2.1 v.2.2.2.2.2.2.2.2.1 v.2.2.2.2.2.2.2.2.2.1 v.2.2.2.2.2.2.2.2.2.2.1 v.2.2.2.2.2.2.2.2.2.2.2
noncomputable def f108_l_eqStrip.O (n : Nat) : Orc := orcOf (E := E) [f138_l_sameFloat.w, f137_l_eqEffectS.w] [] n
theorem f108_l_eqStrip.ok : ∀ n v x, f108_l_eqStrip.F n v = some x → evalFn E n 108 (flAs f108_l_eqStrip.P (sg_lifbblifbb.pk v)) = some (f108_l_eqStrip.A.enc x) :=
  fn_pure (modes := (fdAt 108).ms) (outs := (fdAt 108).os) (results := (fdAt 108).rs) f108_l_eqStrip.O (c := c108) (keep := keepAt 108) (by kernel_rfl) (fun n => orcOf_cf _ _ n) (fun n => lpOk_of (bs := []) (by kernel_rfl) .nil) (fun _ => rfl) (fun _ _ => by kernel_rfl)
noncomputable def f108_l_eqStrip.w : FnW E := fnW 108 f108_l_eqStrip.P sg_lifbblifbb f108_l_eqStrip.A f108_l_eqStrip.F f108_l_eqStrip.ok

def f75_l_eqStripS.l0 (n : Nat) : Nat → Nat → List T → Nat → List T → Int → Option ((Bool) ⊕ (Unit))
  | 0, _, _, _, _, _ => none
  | m + 1, n1, l2, n3, l4, i5 =>
    br (decide (i5 < ((n1 : Nat) : Int))) (
     gd ((decide (((0 : Int) ≤ i5) ∧ (i5 < ((n1 : Nat) : Int)))) && (okAt [CK.lst, (CK.int IntKind.i64), (CK.flt FloatKind.f32), CK.bool, CK.bool] l2 (((Int.toNat i5) * 5) + 0))) (
     gd ((decide (((0 : Int) ≤ i5) ∧ (i5 < ((n3 : Nat) : Int)))) && (okAt [CK.lst, (CK.int IntKind.i64), (CK.flt FloatKind.f32), CK.bool, CK.bool] l4 (((Int.toNat i5) * 5) + 0))) (
     bd (f108_l_eqStrip n (nAt l2 (((Int.toNat i5) * 5) + 0)) (lAt l2 (((Int.toNat i5) * 5) + 0)) (iAt l2 ((((Int.toNat i5) * 5) + 0) + 1)) (fAt l2 (((((Int.toNat i5) * 5) + 0) + 1) + 1)) (bAt l2 ((((((Int.toNat i5) * 5) + 0) + 1) + 1) + 1)) (bAt l2 (((((((Int.toNat i5) * 5) + 0) + 1) + 1) + 1) + 1)) (nAt l4 (((Int.toNat i5) * 5) + 0)) (lAt l4 (((Int.toNat i5) * 5) + 0)) (iAt l4 ((((Int.toNat i5) * 5) + 0) + 1)) (fAt l4 (((((Int.toNat i5) * 5) + 0) + 1) + 1)) (bAt l4 ((((((Int.toNat i5) * 5) + 0) + 1) + 1) + 1)) (bAt l4 (((((((Int.toNat i5) * 5) + 0) + 1) + 1) + 1) + 1))) fun r6 =>
     let b7 : Bool := r6
     br (!b7) (
      some (Sum.inl false)) (
      f75_l_eqStripS.l0 n m n1 l2 n3 l4 (IntKind.i64.wrap (i5 + (1 : Int))))))) (
     some (Sum.inr ()))
def f75_l_eqStripS : Nat → Nat → List T → Nat → List T → Option (Bool)
  | 0, _, _, _, _ => none
  | n + 1, n1, l2, n3, l4 =>
    br (((n1 : Nat) : Int) != ((n3 : Nat) : Int)) (
     some false) (
     bd (f75_l_eqStripS.l0 n n n1 l2 n3 l4 (0 : Int)) fun r5 =>
     sm r5 (fun u6 =>
      let b7 : Bool := u6
      some b7) (fun u8 =>
      some true))
def f75_l_eqStripS.l0.P : AS := ⟨[(0, .val false [.sl .shr [.sl .shr [.leaf, .leaf, .sl .shr [.leaf]], .leaf, .leaf, .leaf, .leaf]] [.lst 0 []] [] 0), (1, .val false [.sl .shr [.sl .shr [.leaf, .leaf, .sl .shr [.leaf]], .leaf, .leaf, .leaf, .leaf]] [.lst 0 []] [] 0), (5, .val false [.leaf] [.int .i64 0] [] 0)], 0⟩
def f75_l_eqStripS.l0.A : Alt ((Bool) ⊕ (Unit)) := .or (.one .ret ⟨[(4, .val false [.leaf] [.bool false] [] 0)], 0⟩ sg_b) (.one (.exit 0) ⟨[(4, .dead)], 0⟩ sg)
def f75_l_eqStripS.l0.F (n m : Nat) (v : Nat × List T × Nat × List T × Int) := f75_l_eqStripS.l0 n m v.1 v.2.1 v.2.2.1 v.2.2.2.1 v.2.2.2.2
def f75_l_eqStripS.l0.W (n : Nat) : LpW := .of 64 f75_l_eqStripS.l0.P sg_lli f75_l_eqStripS.l0.A (f75_l_eqStripS.l0.F n n)
def f75_l_eqStripS.P : List Arg := [⟨.val, ⟨false, [.sl .shr [.sl .shr [.leaf, .leaf, .sl .shr [.leaf]], .leaf, .leaf, .leaf, .leaf]], [.lst 0 []]⟩⟩, ⟨.val, ⟨false, [.sl .shr [.sl .shr [.leaf, .leaf, .sl .shr [.leaf]], .leaf, .leaf, .leaf, .leaf]], [.lst 0 []]⟩⟩]
def f75_l_eqStripS.A : RAlt (Bool) := .one ⟨[⟨false, [.leaf], [.bool false]⟩], [none, none]⟩ sg_b
def f75_l_eqStripS.F (n : Nat) (v : Nat × List T × Nat × List T) := f75_l_eqStripS n v.1 v.2.1 v.2.2.1 v.2.2.2
noncomputable def f75_l_eqStripS.O (n : Nat) : Orc := orcOf (E := E) [f108_l_eqStrip.w] [f75_l_eqStripS.l0.W n] n
theorem f75_l_eqStripS.l0.ok (n : Nat) : LpOk (f75_l_eqStripS.O n) E (evalFn E n) n (keepAt 75) (.loop (loopAt c75 0)) :=
  lp_pure f75_l_eqStripS.l0.P sg_lli f75_l_eqStripS.l0.A (f75_l_eqStripS.l0.F n) (orcOf_cf _ _ n) (lpOk_of (bs := []) (by kernel_rfl) .nil) (fun _ => rfl) (fun _ _ => by kernel_rfl) (fun _ _ _ => by kernel_rfl)
theorem f75_l_eqStripS.ok : ∀ n v x, f75_l_eqStripS.F n v = some x → evalFn E n 75 (flAs f75_l_eqStripS.P (sg_ll.pk v)) = some (f75_l_eqStripS.A.enc x) :=
  fn_pure (modes := (fdAt 75).ms) (outs := (fdAt 75).os) (results := (fdAt 75).rs) f75_l_eqStripS.O (c := c75) (keep := keepAt 75) (by kernel_rfl) (fun n => orcOf_cf _ _ n) (fun n => lpOk_of (bs := [loopAt c75 0]) (by kernel_rfl) (.cons (f75_l_eqStripS.l0.ok n) .nil)) (fun _ => rfl) (fun _ _ => by kernel_rfl)
noncomputable def f75_l_eqStripS.w : FnW E := fnW 75 f75_l_eqStripS.P sg_ll f75_l_eqStripS.A f75_l_eqStripS.F f75_l_eqStripS.ok

def f35_l_eqSession : Nat → Nat → List T → Nat → List T → Nat → List T → Nat → List T → Option (Bool)
  | 0, _, _, _, _, _, _, _, _ => none
  | n + 1, n1, l2, n3, l4, n5, l6, n7, l8 =>
    bd (f74_l_eqClipS n n1 l2 n5 l6) fun r9 =>
    let b10 : Bool := r9
    br (!b10) (
     some false) (
     bd (f75_l_eqStripS n n3 l4 n7 l8) fun r11 =>
     let b12 : Bool := r11
     br (!b12) (
      some false) (
      some true))
def sg_llll : Sig (Nat × List T × Nat × List T × Nat × List T × Nat × List T) where
  pk := fun v => [.lst v.1 v.2.1, .lst v.2.2.1 v.2.2.2.1, .lst v.2.2.2.2.1 v.2.2.2.2.2.1, .lst v.2.2.2.2.2.2.1 v.2.2.2.2.2.2.2]
  up := fun ls => match ls with
    | [.lst a0 a1, .lst a2 a3, .lst a4 a5, .lst a6 a7] => some (a0, a1, a2, a3, a4, a5, a6, a7)
    | _ => none
  ok := by
    intro ls v h
    split at h
    · cases h; rfl
    · cases h

def f35_l_eqSession.P : List Arg := [⟨.val, ⟨true, [.sl .shr [.leaf, .leaf, .sl .shr [.leaf]], .sl .shr [.sl .shr [.leaf, .leaf, .sl .shr [.leaf]], .leaf, .leaf, .leaf, .leaf]], [.lst 0 [], .lst 0 []]⟩⟩, ⟨.val, ⟨true, [.sl .shr [.leaf, .leaf, .sl .shr [.leaf]], .sl .shr [.sl .shr [.leaf, .leaf, .sl .shr [.leaf]], .leaf, .leaf, .leaf, .leaf]], [.lst 0 [], .lst 0 []]⟩⟩]
def f35_l_eqSession.A : RAlt (Bool) := .one ⟨[⟨false, [.leaf], [.bool false]⟩], [none, none]⟩ sg_b
def f35_l_eqSession.F (n : Nat) (v : Nat × List T × Nat × List T × Nat × List T × Nat × List T) := f35_l_eqSession n v.1 v.2.1 v.2.2.1 v.2.2.2.1 v.2.2.2.2.1 v.2.2.2.2.2.1 v.2.2.2.2.2.2.1 v.2.2.2.2.2.2.2
noncomputable def f35_l_eqSession.O (n : Nat) : Orc := orcOf (E := E) [f74_l_eqClipS.w, f75_l_eqStripS.w] [] n
theorem f35_l_eqSession.ok : ∀ n v x, f35_l_eqSession.F n v = some x → evalFn E n 35 (flAs f35_l_eqSession.P (sg_llll.pk v)) = some (f35_l_eqSession.A.enc x) :=
  fn_pure (modes := (fdAt 35).ms) (outs := (fdAt 35).os) (results := (fdAt 35).rs) f35_l_eqSession.O (c := c35) (keep := keepAt 35) (by kernel_rfl) (fun n => orcOf_cf _ _ n) (fun n => lpOk_of (bs := []) (by kernel_rfl) .nil) (fun _ => rfl) (fun _ _ => by kernel_rfl)
noncomputable def f35_l_eqSession.w : FnW E := fnW 35 f35_l_eqSession.P sg_llll f35_l_eqSession.A f35_l_eqSession.F f35_l_eqSession.ok

def f109_l_markFloat32S.l0 (n : Nat) : Nat → Nat → List T → Int → Int → Option (Nat × List T × Int)
  | 0, _, _, _, _ => none
  | m + 1, n1, l2, i3, i4 =>
    br (decide (i4 < ((n1 : Nat) : Int))) (
     gd (decide (((0 : Int) ≤ i4) ∧ (i4 < ((n1 : Nat) : Int)))) (
     gd (Nat.ble ((Int.toNat i4) + 1) (List.length l2)) (
     let l5 : List T := (setN l2 (Int.toNat i4) [(T.flt FloatKind.f32 (FloatKind.nearest FloatKind.f32 i3))])
     let i6 : Int := (IntKind.i64.wrap (i3 + (1 : Int)))
     f109_l_markFloat32S.l0 n m n1 l5 i6 (IntKind.i64.wrap (i4 + (1 : Int)))))) (
     some (n1, l2, i3))
def f109_l_markFloat32S : Nat → Nat → List T → Int → Option (Int × Nat × List T)
  | 0, _, _, _ => none
  | n + 1, n1, l2, i3 =>
    bd (f109_l_markFloat32S.l0 n n n1 l2 i3 (0 : Int)) fun r4 =>
    let n5 : Nat := r4.1
    let l6 : List T := r4.2.1
    let i7 : Int := r4.2.2
    some (i7, n5, l6)
def sg_li : Sig (Nat × List T × Int) where
  pk := fun v => [.lst v.1 v.2.1, .int v.2.2]
  up := fun ls => match ls with
    | [.lst a0 a1, .int a2] => some (a0, a1, a2)
    | _ => none
  ok := by
    intro ls v h
    split at h
    · cases h; rfl
    · cases h

def sg_il : Sig (Int × Nat × List T) where
  pk := fun v => [.int v.1, .lst v.2.1 v.2.2]
  up := fun ls => match ls with
    | [.int a0, .lst a1 a2] => some (a0, a1, a2)
    | _ => none
  ok := by
    intro ls v h
    split at h
    · cases h; rfl
    · cases h

def sg_lii : Sig (Nat × List T × Int × Int) where
  pk := fun v => [.lst v.1 v.2.1, .int v.2.2.1, .int v.2.2.2]
  up := fun ls => match ls with
    | [.lst a0 a1, .int a2, .int a3] => some (a0, a1, a2, a3)
    | _ => none
  ok := by
    intro ls v h
    split at h
    · cases h; rfl
    · cases h

def f109_l_markFloat32S.l0.P : AS := ⟨[(0, .val false [.sl .own [.leaf]] [.lst 0 []] [] 1), (1, .val false [.leaf] [.int .i64 0] [] 0), (5, .val false [.leaf] [.int .i64 0] [] 0)], 0⟩
def f109_l_markFloat32S.l0.A : Alt (Nat × List T × Int) := .one (.exit 0) ⟨[(0, .val false [.sl .own [.leaf]] [.lst 0 []] [] 1), (1, .val false [.leaf] [.int .i64 0] [] 0)], 0⟩ sg_li
def f109_l_markFloat32S.l0.F (n m : Nat) (v : Nat × List T × Int × Int) := f109_l_markFloat32S.l0 n m v.1 v.2.1 v.2.2.1 v.2.2.2
def f109_l_markFloat32S.l0.W (n : Nat) : LpW := .of 32 f109_l_markFloat32S.l0.P sg_lii f109_l_markFloat32S.l0.A (f109_l_markFloat32S.l0.F n n)
def f109_l_markFloat32S.P : List Arg := [⟨.io, ⟨false, [.sl .own [.leaf]], [.lst 0 []]⟩⟩, ⟨.val, ⟨false, [.leaf], [.int .i64 0]⟩⟩]
def f109_l_markFloat32S.A : RAlt (Int × Nat × List T) := .one ⟨[⟨false, [.leaf], [.int .i64 0]⟩], [some ⟨false, [.sl .own [.leaf]], [.lst 0 []]⟩, none]⟩ sg_il
def f109_l_markFloat32S.F (n : Nat) (v : Nat × List T × Int) := f109_l_markFloat32S n v.1 v.2.1 v.2.2
noncomputable def f109_l_markFloat32S.O (n : Nat) : Orc := orcOf (E := E) [] [f109_l_markFloat32S.l0.W n] n
theorem f109_l_markFloat32S.l0.ok (n : Nat) : LpOk (f109_l_markFloat32S.O n) E (evalFn E n) n (keepAt 109) (.loop (loopAt c109 0)) :=
  lp_pure f109_l_markFloat32S.l0.P sg_lii f109_l_markFloat32S.l0.A (f109_l_markFloat32S.l0.F n) (orcOf_cf _ _ n) (lpOk_of (bs := []) (by kernel_rfl) .nil) (fun _ => rfl) (fun _ _ => by kernel_rfl) (fun _ _ _ => by kernel_rfl)
theorem f109_l_markFloat32S.ok : ∀ n v x, f109_l_markFloat32S.F n v = some x → evalFn E n 109 (flAs f109_l_markFloat32S.P (sg_li.pk v)) = some (f109_l_markFloat32S.A.enc x) :=
  fn_pure (modes := (fdAt 109).ms) (outs := (fdAt 109).os) (results := (fdAt 109).rs) f109_l_markFloat32S.O (c := c109) (keep := keepAt 109) (by kernel_rfl) (fun n => orcOf_cf _ _ n) (fun n => lpOk_of (bs := [loopAt c109 0]) (by kernel_rfl) (.cons (f109_l_markFloat32S.l0.ok n) .nil)) (fun _ => rfl) (fun _ _ => by kernel_rfl)
noncomputable def f109_l_markFloat32S.w : FnW E := fnW 109 f109_l_markFloat32S.P sg_li f109_l_markFloat32S.A f109_l_markFloat32S.F f109_l_markFloat32S.ok

def f76_l_markClipS.l0 (n : Nat) : Nat → Nat → List T → Int → Int → Option (Nat × List T × Int)
  | 0, _, _, _, _ => none
  | m + 1, n1, l2, i3, i4 =>
    br (decide (i4 < ((n1 : Nat) : Int))) (
     gd (decide (((0 : Int) ≤ i4) ∧ (i4 < ((n1 : Nat) : Int)))) (
     gd (Nat.ble ((((Int.toNat i4) * 3) + 0) + 1) (List.length l2)) (
     let l5 : List T := (setN l2 (((Int.toNat i4) * 3) + 0) [(T.int IntKind.i64 i3)])
     let i6 : Int := (IntKind.i64.wrap (i3 + (1 : Int)))
     gd (decide (((0 : Int) ≤ i4) ∧ (i4 < ((n1 : Nat) : Int)))) (
     gd (Nat.ble ((((Int.toNat i4) * 3) + 1) + 1) (List.length l5)) (
     let l7 : List T := (setN l5 (((Int.toNat i4) * 3) + 1) [(T.int IntKind.i64 i6)])
     let i8 : Int := (IntKind.i64.wrap (i6 + (1 : Int)))
     gd (decide (((0 : Int) ≤ i4) ∧ (i4 < ((n1 : Nat) : Int)))) (
     gd (okAt [CK.lst] l7 (((Int.toNat i4) * 3) + 2)) (
     gd ((okAt [CK.lst] l7 (((Int.toNat i4) * 3) + 2)) && true) (
     gd ((okAt [CK.lst] l7 (((Int.toNat i4) * 3) + 2)) && true) (
     bd (f109_l_markFloat32S n (nAt l7 (((Int.toNat i4) * 3) + 2)) (lAt l7 (((Int.toNat i4) * 3) + 2)) i8) fun r9 =>
     let i10 : Int := r9.1
     let n11 : Nat := r9.2.1
     let l12 : List T := r9.2.2
     let l13 : List T := (setN l7 (((Int.toNat i4) * 3) + 2) [(T.lst n11 l12)])
     f76_l_markClipS.l0 n m n1 l13 i10 (IntKind.i64.wrap (i4 + (1 : Int)))))))))))) (
     some (n1, l2, i3))
def f76_l_markClipS : Nat → Nat → List T → Int → Option (Int × Nat × List T)
  | 0, _, _, _ => none
  | n + 1, n1, l2, i3 =>
    bd (f76_l_markClipS.l0 n n n1 l2 i3 (0 : Int)) fun r4 =>
    let n5 : Nat := r4.1
    let l6 : List T := r4.2.1
    let i7 : Int := r4.2.2
    some (i7, n5, l6)
def f76_l_markClipS.l0.P : AS := ⟨[(0, .val false [.sl .own [.leaf, .leaf, .sl .own [.leaf]]] [.lst 0 []] [] 1), (1, .val false [.leaf] [.int .i64 0] [] 0), (5, .val false [.leaf] [.int .i64 0] [] 0)], 0⟩
def f76_l_markClipS.l0.A : Alt (Nat × List T × Int) := .one (.exit 0) ⟨[(0, .val false [.sl .own [.leaf, .leaf, .sl .own [.leaf]]] [.lst 0 []] [] 1), (1, .val false [.leaf] [.int .i64 0] [] 0)], 0⟩ sg_li
def f76_l_markClipS.l0.F (n m : Nat) (v : Nat × List T × Int × Int) := f76_l_markClipS.l0 n m v.1 v.2.1 v.2.2.1 v.2.2.2
def f76_l_markClipS.l0.W (n : Nat) : LpW := .of 32 f76_l_markClipS.l0.P sg_lii f76_l_markClipS.l0.A (f76_l_markClipS.l0.F n n)
def f76_l_markClipS.P : List Arg := [⟨.io, ⟨false, [.sl .own [.leaf, .leaf, .sl .own [.leaf]]], [.lst 0 []]⟩⟩, ⟨.val, ⟨false, [.leaf], [.int .i64 0]⟩⟩]
def f76_l_markClipS.A : RAlt (Int × Nat × List T) := .one ⟨[⟨false, [.leaf], [.int .i64 0]⟩], [some ⟨false, [.sl .own [.leaf, .leaf, .sl .own [.leaf]]], [.lst 0 []]⟩, none]⟩ sg_il
def f76_l_markClipS.F (n : Nat) (v : Nat × List T × Int) := f76_l_markClipS n v.1 v.2.1 v.2.2
noncomputable def f76_l_markClipS.O (n : Nat) : Orc := orcOf (E := E) [f109_l_markFloat32S.w] [f76_l_markClipS.l0.W n] n
theorem f76_l_markClipS.l0.ok (n : Nat) : LpOk (f76_l_markClipS.O n) E (evalFn E n) n (keepAt 76) (.loop (loopAt c76 0)) :=
  lp_pure f76_l_markClipS.l0.P sg_lii f76_l_markClipS.l0.A (f76_l_markClipS.l0.F n) (orcOf_cf _ _ n) (lpOk_of (bs := []) (by kernel_rfl) .nil) (fun _ => rfl) (fun _ _ => by kernel_rfl) (fun _ _ _ => by kernel_rfl)
theorem f76_l_markClipS.ok : ∀ n v x, f76_l_markClipS.F n v = some x → evalFn E n 76 (flAs f76_l_markClipS.P (sg_li.pk v)) = some (f76_l_markClipS.A.enc x) :=
  fn_pure (modes := (fdAt 76).ms) (outs := (fdAt 76).os) (results := (fdAt 76).rs) f76_l_markClipS.O (c := c76) (keep := keepAt 76) (by kernel_rfl) (fun n => orcOf_cf _ _ n) (fun n => lpOk_of (bs := [loopAt c76 0]) (by kernel_rfl) (.cons (f76_l_markClipS.l0.ok n) .nil)) (fun _ => rfl) (fun _ _ => by kernel_rfl)
noncomputable def f76_l_markClipS.w : FnW E := fnW 76 f76_l_markClipS.P sg_li f76_l_markClipS.A f76_l_markClipS.F f76_l_markClipS.ok

def f110_l_markEffectS.l0 (n : Nat) : Nat → Nat → List T → Int → Int → Option (Nat × List T × Int)
  | 0, _, _, _, _ => none
  | m + 1, n1, l2, i3, i4 =>
    br (decide (i4 < ((n1 : Nat) : Int))) (
     gd (decide (((0 : Int) ≤ i4) ∧ (i4 < ((n1 : Nat) : Int)))) (
     gd (Nat.ble ((((Int.toNat i4) * 3) + 0) + 1) (List.length l2)) (
     let l5 : List T := (setN l2 (((Int.toNat i4) * 3) + 0) [(T.int IntKind.i64 i3)])
     let i6 : Int := (IntKind.i64.wrap (i3 + (1 : Int)))
     gd (decide (((0 : Int) ≤ i4) ∧ (i4 < ((n1 : Nat) : Int)))) (
     gd (Nat.ble ((((Int.toNat i4) * 3) + 1) + 1) (List.length l5)) (
     let l7 : List T := (setN l5 (((Int.toNat i4) * 3) + 1) [(T.int IntKind.i64 i6)])
     let i8 : Int := (IntKind.i64.wrap (i6 + (1 : Int)))
     gd (decide (((0 : Int) ≤ i4) ∧ (i4 < ((n1 : Nat) : Int)))) (
     gd (okAt [CK.lst] l7 (((Int.toNat i4) * 3) + 2)) (
     gd ((okAt [CK.lst] l7 (((Int.toNat i4) * 3) + 2)) && true) (
     gd ((okAt [CK.lst] l7 (((Int.toNat i4) * 3) + 2)) && true) (
     bd (f109_l_markFloat32S n (nAt l7 (((Int.toNat i4) * 3) + 2)) (lAt l7 (((Int.toNat i4) * 3) + 2)) i8) fun r9 =>
     let i10 : Int := r9.1
     let n11 : Nat := r9.2.1
     let l12 : List T := r9.2.2
     let l13 : List T := (setN l7 (((Int.toNat i4) * 3) + 2) [(T.lst n11 l12)])
     f110_l_markEffectS.l0 n m n1 l13 i10 (IntKind.i64.wrap (i4 + (1 : Int)))))))))))) (
     some (n1, l2, i3))
def f110_l_markEffectS : Nat → Nat → List T → Int → Option (Int × Nat × List T)
  | 0, _, _, _ => none
  | n + 1, n1, l2, i3 =>
    bd (f110_l_markEffectS.l0 n n n1 l2 i3 (0 : Int)) fun r4 =>
    let n5 : Nat := r4.1
    let l6 : List T := r4.2.1
    let i7 : Int := r4.2.2
    some (i7, n5, l6)
def f110_l_markEffectS.l0.P : AS := ⟨[(0, .val false [.sl .own [.leaf, .leaf, .sl .own [.leaf]]] [.lst 0 []] [] 1), (1, .val false [.leaf] [.int .i64 0] [] 0), (5, .val false [.leaf] [.int .i64 0] [] 0)], 0⟩
def f110_l_markEffectS.l0.A : Alt (Nat × List T × Int) := .one (.exit 0) ⟨[(0, .val false [.sl .own [.leaf, .leaf, .sl .own [.leaf]]] [.lst 0 []] [] 1), (1, .val false [.leaf] [.int .i64 0] [] 0)], 0⟩ sg_li
def f110_l_markEffectS.l0.F (n m : Nat) (v : Nat × List T × Int × Int) := f110_l_markEffectS.l0 n m v.1 v.2.1 v.2.2.1 v.2.2.2
def f110_l_markEffectS.l0.W (n : Nat) : LpW := .of 32 f110_l_markEffectS.l0.P sg_lii f110_l_markEffectS.l0.A (f110_l_markEffectS.l0.F n n)
def f110_l_markEffectS.P : List Arg := [⟨.io, ⟨false, [.sl .own [.leaf, .leaf, .sl .own [.leaf]]], [.lst 0 []]⟩⟩, ⟨.val, ⟨false, [.leaf], [.int .i64 0]⟩⟩]
def f110_l_markEffectS.A : RAlt (Int × Nat × List T) := .one ⟨[⟨false, [.leaf], [.int .i64 0]⟩], [some ⟨false, [.sl .own [.leaf, .leaf, .sl .own [.leaf]]], [.lst 0 []]⟩, none]⟩ sg_il
def f110_l_markEffectS.F (n : Nat) (v : Nat × List T × Int) := f110_l_markEffectS n v.1 v.2.1 v.2.2
noncomputable def f110_l_markEffectS.O (n : Nat) : Orc := orcOf (E := E) [f109_l_markFloat32S.w] [f110_l_markEffectS.l0.W n] n
theorem f110_l_markEffectS.l0.ok (n : Nat) : LpOk (f110_l_markEffectS.O n) E (evalFn E n) n (keepAt 110) (.loop (loopAt c110 0)) :=
  lp_pure f110_l_markEffectS.l0.P sg_lii f110_l_markEffectS.l0.A (f110_l_markEffectS.l0.F n) (orcOf_cf _ _ n) (lpOk_of (bs := []) (by kernel_rfl) .nil) (fun _ => rfl) (fun _ _ => by kernel_rfl) (fun _ _ _ => by kernel_rfl)
theorem f110_l_markEffectS.ok : ∀ n v x, f110_l_markEffectS.F n v = some x → evalFn E n 110 (flAs f110_l_markEffectS.P (sg_li.pk v)) = some (f110_l_markEffectS.A.enc x) :=
  fn_pure (modes := (fdAt 110).ms) (outs := (fdAt 110).os) (results := (fdAt 110).rs) f110_l_markEffectS.O (c := c110) (keep := keepAt 110) (by kernel_rfl) (fun n => orcOf_cf _ _ n) (fun n => lpOk_of (bs := [loopAt c110 0]) (by kernel_rfl) (.cons (f110_l_markEffectS.l0.ok n) .nil)) (fun _ => rfl) (fun _ _ => by kernel_rfl)
noncomputable def f110_l_markEffectS.w : FnW E := fnW 110 f110_l_markEffectS.P sg_li f110_l_markEffectS.A f110_l_markEffectS.F f110_l_markEffectS.ok

def f77_l_markStripS.l0 (n : Nat) : Nat → Nat → List T → Int → Int → Option (Nat × List T × Int)
  | 0, _, _, _, _ => none
  | m + 1, n1, l2, i3, i4 =>
    br (decide (i4 < ((n1 : Nat) : Int))) (
     gd (decide (((0 : Int) ≤ i4) ∧ (i4 < ((n1 : Nat) : Int)))) (
     gd (okAt [CK.lst] l2 (((Int.toNat i4) * 5) + 0)) (
     gd ((okAt [CK.lst] l2 (((Int.toNat i4) * 5) + 0)) && true) (
     gd ((okAt [CK.lst] l2 (((Int.toNat i4) * 5) + 0)) && true) (
     bd (f110_l_markEffectS n (nAt l2 (((Int.toNat i4) * 5) + 0)) (lAt l2 (((Int.toNat i4) * 5) + 0)) i3) fun r5 =>
     let i6 : Int := r5.1
     let n7 : Nat := r5.2.1
     let l8 : List T := r5.2.2
     let l9 : List T := (setN l2 (((Int.toNat i4) * 5) + 0) [(T.lst n7 l8)])
     gd (decide (((0 : Int) ≤ i4) ∧ (i4 < ((n1 : Nat) : Int)))) (
     gd (Nat.ble ((((Int.toNat i4) * 5) + 1) + 1) (List.length l9)) (
     let l10 : List T := (setN l9 (((Int.toNat i4) * 5) + 1) [(T.int IntKind.i64 i6)])
     let i11 : Int := (IntKind.i64.wrap (i6 + (1 : Int)))
     gd (decide (((0 : Int) ≤ i4) ∧ (i4 < ((n1 : Nat) : Int)))) (
     gd (Nat.ble ((((Int.toNat i4) * 5) + 2) + 1) (List.length l10)) (
     let l12 : List T := (setN l10 (((Int.toNat i4) * 5) + 2) [(T.flt FloatKind.f32 (FloatKind.nearest FloatKind.f32 i11))])
     let i13 : Int := (IntKind.i64.wrap (i11 + (1 : Int)))
     gd (decide (((0 : Int) ≤ i4) ∧ (i4 < ((n1 : Nat) : Int)))) (
     gd (Nat.ble ((((Int.toNat i4) * 5) + 3) + 1) (List.length l12)) (
     let l14 : List T := (setN l12 (((Int.toNat i4) * 5) + 3) [(T.bool ((Int.tmod i13 (3 : Int)) == (0 : Int)))])
     let i15 : Int := (IntKind.i64.wrap (i13 + (1 : Int)))
     gd (decide (((0 : Int) ≤ i4) ∧ (i4 < ((n1 : Nat) : Int)))) (
     gd (Nat.ble ((((Int.toNat i4) * 5) + 4) + 1) (List.length l14)) (
     let l16 : List T := (setN l14 (((Int.toNat i4) * 5) + 4) [(T.bool ((Int.tmod i15 (3 : Int)) == (0 : Int)))])
     let i17 : Int := (IntKind.i64.wrap (i15 + (1 : Int)))
     f77_l_markStripS.l0 n m n1 l16 i17 (IntKind.i64.wrap (i4 + (1 : Int)))))))))))))))) (
     some (n1, l2, i3))
def f77_l_markStripS : Nat → Nat → List T → Int → Option (Int × Nat × List T)
  | 0, _, _, _ => none
  | n + 1, n1, l2, i3 =>
    bd (f77_l_markStripS.l0 n n n1 l2 i3 (0 : Int)) fun r4 =>
    let n5 : Nat := r4.1
    let l6 : List T := r4.2.1
    let i7 : Int := r4.2.2
    some (i7, n5, l6)
def f77_l_markStripS.l0.P : AS := ⟨[(0, .val false [.sl .own [.sl .own [.leaf, .leaf, .sl .own [.leaf]], .leaf, .leaf, .leaf, .leaf]] [.lst 0 []] [] 1), (1, .val false [.leaf] [.int .i64 0] [] 0), (5, .val false [.leaf] [.int .i64 0] [] 0)], 0⟩
def f77_l_markStripS.l0.A : Alt (Nat × List T × Int) := .one (.exit 0) ⟨[(0, .val false [.sl .own [.sl .own [.leaf, .leaf, .sl .own [.leaf]], .leaf, .leaf, .leaf, .leaf]] [.lst 0 []] [] 1), (1, .val false [.leaf] [.int .i64 0] [] 0)], 0⟩ sg_li
def f77_l_markStripS.l0.F (n m : Nat) (v : Nat × List T × Int × Int) := f77_l_markStripS.l0 n m v.1 v.2.1 v.2.2.1 v.2.2.2
def f77_l_markStripS.l0.W (n : Nat) : LpW := .of 32 f77_l_markStripS.l0.P sg_lii f77_l_markStripS.l0.A (f77_l_markStripS.l0.F n n)
def f77_l_markStripS.P : List Arg := [⟨.io, ⟨false, [.sl .own [.sl .own [.leaf, .leaf, .sl .own [.leaf]], .leaf, .leaf, .leaf, .leaf]], [.lst 0 []]⟩⟩, ⟨.val, ⟨false, [.leaf], [.int .i64 0]⟩⟩]
def f77_l_markStripS.A : RAlt (Int × Nat × List T) := .one ⟨[⟨false, [.leaf], [.int .i64 0]⟩], [some ⟨false, [.sl .own [.sl .own [.leaf, .leaf, .sl .own [.leaf]], .leaf, .leaf, .leaf, .leaf]], [.lst 0 []]⟩, none]⟩ sg_il
def f77_l_markStripS.F (n : Nat) (v : Nat × List T × Int) := f77_l_markStripS n v.1 v.2.1 v.2.2
noncomputable def f77_l_markStripS.O (n : Nat) : Orc := orcOf (E := E) [f110_l_markEffectS.w] [f77_l_markStripS.l0.W n] n
theorem f77_l_markStripS.l0.ok (n : Nat) : LpOk (f77_l_markStripS.O n) E (evalFn E n) n (keepAt 77) (.loop (loopAt c77 0)) :=
  lp_pure f77_l_markStripS.l0.P sg_lii f77_l_markStripS.l0.A (f77_l_markStripS.l0.F n) (orcOf_cf _ _ n) (lpOk_of (bs := []) (by kernel_rfl) .nil) (fun _ => rfl) (fun _ _ => by kernel_rfl) (fun _ _ _ => by kernel_rfl)
theorem f77_l_markStripS.ok : ∀ n v x, f77_l_markStripS.F n v = some x → evalFn E n 77 (flAs f77_l_markStripS.P (sg_li.pk v)) = some (f77_l_markStripS.A.enc x) :=
  fn_pure (modes := (fdAt 77).ms) (outs := (fdAt 77).os) (results := (fdAt 77).rs) f77_l_markStripS.O (c := c77) (keep := keepAt 77) (by kernel_rfl) (fun n => orcOf_cf _ _ n) (fun n => lpOk_of (bs := [loopAt c77 0]) (by kernel_rfl) (.cons (f77_l_markStripS.l0.ok n) .nil)) (fun _ => rfl) (fun _ _ => by kernel_rfl)
noncomputable def f77_l_markStripS.w : FnW E := fnW 77 f77_l_markStripS.P sg_li f77_l_markStripS.A f77_l_markStripS.F f77_l_markStripS.ok

def f36_l_markSession : Nat → Nat → List T → Nat → List T → Int → Option (Int × Nat × List T × Nat × List T)
  | 0, _, _, _, _, _ => none
  | n + 1, n1, l2, n3, l4, i5 =>
    bd (f76_l_markClipS n n1 l2 i5) fun r6 =>
    let i7 : Int := r6.1
    let n8 : Nat := r6.2.1
    let l9 : List T := r6.2.2
    bd (f77_l_markStripS n n3 l4 i7) fun r10 =>
    let i11 : Int := r10.1
    let n12 : Nat := r10.2.1
    let l13 : List T := r10.2.2
    some (i11, n8, l9, n12, l13)
def sg_ill : Sig (Int × Nat × List T × Nat × List T) where
  pk := fun v => [.int v.1, .lst v.2.1 v.2.2.1, .lst v.2.2.2.1 v.2.2.2.2]
  up := fun ls => match ls with
    | [.int a0, .lst a1 a2, .lst a3 a4] => some (a0, a1, a2, a3, a4)
    | _ => none
  ok := by
    intro ls v h
    split at h
    · cases h; rfl
    · cases h

def f36_l_markSession.P : List Arg := [⟨.io, ⟨true, [.sl .own [.leaf, .leaf, .sl .own [.leaf]], .sl .own [.sl .own [.leaf, .leaf, .sl .own [.leaf]], .leaf, .leaf, .leaf, .leaf]], [.lst 0 [], .lst 0 []]⟩⟩, ⟨.val, ⟨false, [.leaf], [.int .i64 0]⟩⟩]
def f36_l_markSession.A : RAlt (Int × Nat × List T × Nat × List T) := .one ⟨[⟨false, [.leaf], [.int .i64 0]⟩], [some ⟨true, [.sl .own [.leaf, .leaf, .sl .own [.leaf]], .sl .own [.sl .own [.leaf, .leaf, .sl .own [.leaf]], .leaf, .leaf, .leaf, .leaf]], [.lst 0 [], .lst 0 []]⟩, none]⟩ sg_ill
def f36_l_markSession.F (n : Nat) (v : Nat × List T × Nat × List T × Int) := f36_l_markSession n v.1 v.2.1 v.2.2.1 v.2.2.2.1 v.2.2.2.2
noncomputable def f36_l_markSession.O (n : Nat) : Orc := orcOf (E := E) [f76_l_markClipS.w, f77_l_markStripS.w] [] n
theorem f36_l_markSession.ok : ∀ n v x, f36_l_markSession.F n v = some x → evalFn E n 36 (flAs f36_l_markSession.P (sg_lli.pk v)) = some (f36_l_markSession.A.enc x) :=
  fn_pure (modes := (fdAt 36).ms) (outs := (fdAt 36).os) (results := (fdAt 36).rs) f36_l_markSession.O (c := c36) (keep := keepAt 36) (by kernel_rfl) (fun n => orcOf_cf _ _ n) (fun n => lpOk_of (bs := []) (by kernel_rfl) .nil) (fun _ => rfl) (fun _ _ => by kernel_rfl)
noncomputable def f36_l_markSession.w : FnW E := fnW 36 f36_l_markSession.P sg_lli f36_l_markSession.A f36_l_markSession.F f36_l_markSession.ok

def f111_l_heldFloat32S.l0 (n : Nat) : Nat → Nat → List T → Int → Int → Option ((Int) ⊕ (Int))
  | 0, _, _, _, _ => none
  | m + 1, n1, l2, i3, i4 =>
    br (decide (i4 < ((n1 : Nat) : Int))) (
     gd ((decide (((0 : Int) ≤ i4) ∧ (i4 < ((n1 : Nat) : Int)))) && (okAt [(CK.flt FloatKind.f32)] l2 (Int.toNat i4))) (
     br (fne FloatKind.f32 (fAt l2 (Int.toNat i4)) (FloatKind.nearest FloatKind.f32 i3)) (
      some (Sum.inl (-1 : Int))) (
      let i5 : Int := (IntKind.i64.wrap (i3 + (1 : Int)))
      f111_l_heldFloat32S.l0 n m n1 l2 i5 (IntKind.i64.wrap (i4 + (1 : Int)))))) (
     some (Sum.inr i3))
def f111_l_heldFloat32S : Nat → Nat → List T → Int → Option (Int)
  | 0, _, _, _ => none
  | n + 1, n1, l2, i3 =>
    bd (f111_l_heldFloat32S.l0 n n n1 l2 i3 (0 : Int)) fun r4 =>
    sm r4 (fun u5 =>
     let i6 : Int := u5
     some i6) (fun u7 =>
     let i8 : Int := u7
     some i8)
def sg_i : Sig (Int) where
  pk := fun v => [.int v]
  up := fun ls => match ls with
    | [.int a0] => some a0
    | _ => none
  ok := by
    intro ls v h
    split at h
    · cases h; rfl
    · cases h

def f111_l_heldFloat32S.l0.P : AS := ⟨[(0, .val false [.sl .shr [.leaf]] [.lst 0 []] [] 0), (1, .val false [.leaf] [.int .i64 0] [] 0), (5, .val false [.leaf] [.int .i64 0] [] 0)], 0⟩
def f111_l_heldFloat32S.l0.A : Alt ((Int) ⊕ (Int)) := .or (.one .ret ⟨[(1, .dead), (4, .val false [.leaf] [.int .i64 0] [] 0)], 0⟩ sg_i) (.one (.exit 0) ⟨[(1, .val false [.leaf] [.int .i64 0] [] 0), (4, .dead)], 0⟩ sg_i)
def f111_l_heldFloat32S.l0.F (n m : Nat) (v : Nat × List T × Int × Int) := f111_l_heldFloat32S.l0 n m v.1 v.2.1 v.2.2.1 v.2.2.2
def f111_l_heldFloat32S.l0.W (n : Nat) : LpW := .of 32 f111_l_heldFloat32S.l0.P sg_lii f111_l_heldFloat32S.l0.A (f111_l_heldFloat32S.l0.F n n)
def f111_l_heldFloat32S.P : List Arg := [⟨.val, ⟨false, [.sl .shr [.leaf]], [.lst 0 []]⟩⟩, ⟨.val, ⟨false, [.leaf], [.int .i64 0]⟩⟩]
def f111_l_heldFloat32S.A : RAlt (Int) := .one ⟨[⟨false, [.leaf], [.int .i64 0]⟩], [none, none]⟩ sg_i
def f111_l_heldFloat32S.F (n : Nat) (v : Nat × List T × Int) := f111_l_heldFloat32S n v.1 v.2.1 v.2.2
noncomputable def f111_l_heldFloat32S.O (n : Nat) : Orc := orcOf (E := E) [] [f111_l_heldFloat32S.l0.W n] n
theorem f111_l_heldFloat32S.l0.ok (n : Nat) : LpOk (f111_l_heldFloat32S.O n) E (evalFn E n) n (keepAt 111) (.loop (loopAt c111 0)) :=
  lp_pure f111_l_heldFloat32S.l0.P sg_lii f111_l_heldFloat32S.l0.A (f111_l_heldFloat32S.l0.F n) (orcOf_cf _ _ n) (lpOk_of (bs := []) (by kernel_rfl) .nil) (fun _ => rfl) (fun _ _ => by kernel_rfl) (fun _ _ _ => by kernel_rfl)
theorem f111_l_heldFloat32S.ok : ∀ n v x, f111_l_heldFloat32S.F n v = some x → evalFn E n 111 (flAs f111_l_heldFloat32S.P (sg_li.pk v)) = some (f111_l_heldFloat32S.A.enc x) :=
  fn_pure (modes := (fdAt 111).ms) (outs := (fdAt 111).os) (results := (fdAt 111).rs) f111_l_heldFloat32S.O (c := c111) (keep := keepAt 111) (by kernel_rfl) (fun n => orcOf_cf _ _ n) (fun n => lpOk_of (bs := [loopAt c111 0]) (by kernel_rfl) (.cons (f111_l_heldFloat32S.l0.ok n) .nil)) (fun _ => rfl) (fun _ _ => by kernel_rfl)
noncomputable def f111_l_heldFloat32S.w : FnW E := fnW 111 f111_l_heldFloat32S.P sg_li f111_l_heldFloat32S.A f111_l_heldFloat32S.F f111_l_heldFloat32S.ok

def f78_l_heldClipS.l0 (n : Nat) : Nat → Nat → List T → Int → Int → Option ((Int) ⊕ (Int))
  | 0, _, _, _, _ => none
  | m + 1, n1, l2, i3, i4 =>
    br (decide (i4 < ((n1 : Nat) : Int))) (
     gd ((decide (((0 : Int) ≤ i4) ∧ (i4 < ((n1 : Nat) : Int)))) && (okAt [(CK.int IntKind.i64), (CK.int IntKind.i64), CK.lst] l2 (((Int.toNat i4) * 3) + 0))) (
     br ((iAt l2 (((Int.toNat i4) * 3) + 0)) != i3) (
      some (Sum.inl (-1 : Int))) (
      let i5 : Int := (IntKind.i64.wrap (i3 + (1 : Int)))
      gd ((decide (((0 : Int) ≤ i4) ∧ (i4 < ((n1 : Nat) : Int)))) && (okAt [(CK.int IntKind.i64), (CK.int IntKind.i64), CK.lst] l2 (((Int.toNat i4) * 3) + 0))) (
      br ((iAt l2 ((((Int.toNat i4) * 3) + 0) + 1)) != i5) (
       some (Sum.inl (-1 : Int))) (
       let i6 : Int := (IntKind.i64.wrap (i5 + (1 : Int)))
       gd ((decide (((0 : Int) ≤ i4) ∧ (i4 < ((n1 : Nat) : Int)))) && (okAt [(CK.int IntKind.i64), (CK.int IntKind.i64), CK.lst] l2 (((Int.toNat i4) * 3) + 0))) (
       bd (f111_l_heldFloat32S n (nAt l2 (((((Int.toNat i4) * 3) + 0) + 1) + 1)) (lAt l2 (((((Int.toNat i4) * 3) + 0) + 1) + 1)) i6) fun r7 =>
       let i8 : Int := r7
       br (decide (i8 < (0 : Int))) (
        some (Sum.inl (-1 : Int))) (
        f78_l_heldClipS.l0 n m n1 l2 i8 (IntKind.i64.wrap (i4 + (1 : Int)))))))))) (
     some (Sum.inr i3))
def f78_l_heldClipS : Nat → Nat → List T → Int → Option (Int)
  | 0, _, _, _ => none
  | n + 1, n1, l2, i3 =>
    bd (f78_l_heldClipS.l0 n n n1 l2 i3 (0 : Int)) fun r4 =>
    sm r4 (fun u5 =>
     let i6 : Int := u5
     some i6) (fun u7 =>
     let i8 : Int := u7
     some i8)
def f78_l_heldClipS.l0.P : AS := ⟨[(0, .val false [.sl .shr [.leaf, .leaf, .sl .shr [.leaf]]] [.lst 0 []] [] 0), (1, .val false [.leaf] [.int .i64 0] [] 0), (5, .val false [.leaf] [.int .i64 0] [] 0)], 0⟩
def f78_l_heldClipS.l0.A : Alt ((Int) ⊕ (Int)) := .or (.one .ret ⟨[(1, .dead), (4, .val false [.leaf] [.int .i64 0] [] 0)], 0⟩ sg_i) (.one (.exit 0) ⟨[(1, .val false [.leaf] [.int .i64 0] [] 0), (4, .dead)], 0⟩ sg_i)
def f78_l_heldClipS.l0.F (n m : Nat) (v : Nat × List T × Int × Int) := f78_l_heldClipS.l0 n m v.1 v.2.1 v.2.2.1 v.2.2.2
def f78_l_heldClipS.l0.W (n : Nat) : LpW := .of 32 f78_l_heldClipS.l0.P sg_lii f78_l_heldClipS.l0.A (f78_l_heldClipS.l0.F n n)
def f78_l_heldClipS.P : List Arg := [⟨.val, ⟨false, [.sl .shr [.leaf, .leaf, .sl .shr [.leaf]]], [.lst 0 []]⟩⟩, ⟨.val, ⟨false, [.leaf], [.int .i64 0]⟩⟩]
def f78_l_heldClipS.A : RAlt (Int) := .one ⟨[⟨false, [.leaf], [.int .i64 0]⟩], [none, none]⟩ sg_i
def f78_l_heldClipS.F (n : Nat) (v : Nat × List T × Int) := f78_l_heldClipS n v.1 v.2.1 v.2.2
noncomputable def f78_l_heldClipS.O (n : Nat) : Orc := orcOf (E := E) [f111_l_heldFloat32S.w] [f78_l_heldClipS.l0.W n] n
theorem f78_l_heldClipS.l0.ok (n : Nat) : LpOk (f78_l_heldClipS.O n) E (evalFn E n) n (keepAt 78) (.loop (loopAt c78 0)) :=
  lp_pure f78_l_heldClipS.l0.P sg_lii f78_l_heldClipS.l0.A (f78_l_heldClipS.l0.F n) (orcOf_cf _ _ n) (lpOk_of (bs := []) (by kernel_rfl) .nil) (fun _ => rfl) (fun _ _ => by kernel_rfl) (fun _ _ _ => by kernel_rfl)
theorem f78_l_heldClipS.ok : ∀ n v x, f78_l_heldClipS.F n v = some x → evalFn E n 78 (flAs f78_l_heldClipS.P (sg_li.pk v)) = some (f78_l_heldClipS.A.enc x) :=
  fn_pure (modes := (fdAt 78).ms) (outs := (fdAt 78).os) (results := (fdAt 78).rs) f78_l_heldClipS.O (c := c78) (keep := keepAt 78) (by kernel_rfl) (fun n => orcOf_cf _ _ n) (fun n => lpOk_of (bs := [loopAt c78 0]) (by kernel_rfl) (.cons (f78_l_heldClipS.l0.ok n) .nil)) (fun _ => rfl) (fun _ _ => by kernel_rfl)
noncomputable def f78_l_heldClipS.w : FnW E := fnW 78 f78_l_heldClipS.P sg_li f78_l_heldClipS.A f78_l_heldClipS.F f78_l_heldClipS.ok

def f112_l_heldEffectS.l0 (n : Nat) : Nat → Nat → List T → Int → Int → Option ((Int) ⊕ (Int))
  | 0, _, _, _, _ => none
  | m + 1, n1, l2, i3, i4 =>
    br (decide (i4 < ((n1 : Nat) : Int))) (
     gd ((decide (((0 : Int) ≤ i4) ∧ (i4 < ((n1 : Nat) : Int)))) && (okAt [(CK.int IntKind.i64), (CK.int IntKind.i64), CK.lst] l2 (((Int.toNat i4) * 3) + 0))) (
     br ((iAt l2 (((Int.toNat i4) * 3) + 0)) != i3) (
      some (Sum.inl (-1 : Int))) (
      let i5 : Int := (IntKind.i64.wrap (i3 + (1 : Int)))
      gd ((decide (((0 : Int) ≤ i4) ∧ (i4 < ((n1 : Nat) : Int)))) && (okAt [(CK.int IntKind.i64), (CK.int IntKind.i64), CK.lst] l2 (((Int.toNat i4) * 3) + 0))) (
      br ((iAt l2 ((((Int.toNat i4) * 3) + 0) + 1)) != i5) (
       some (Sum.inl (-1 : Int))) (
       let i6 : Int := (IntKind.i64.wrap (i5 + (1 : Int)))
       gd ((decide (((0 : Int) ≤ i4) ∧ (i4 < ((n1 : Nat) : Int)))) && (okAt [(CK.int IntKind.i64), (CK.int IntKind.i64), CK.lst] l2 (((Int.toNat i4) * 3) + 0))) (
       bd (f111_l_heldFloat32S n (nAt l2 (((((Int.toNat i4) * 3) + 0) + 1) + 1)) (lAt l2 (((((Int.toNat i4) * 3) + 0) + 1) + 1)) i6) fun r7 =>
       let i8 : Int := r7
       br (decide (i8 < (0 : Int))) (
        some (Sum.inl (-1 : Int))) (
        f112_l_heldEffectS.l0 n m n1 l2 i8 (IntKind.i64.wrap (i4 + (1 : Int)))))))))) (
     some (Sum.inr i3))
def f112_l_heldEffectS : Nat → Nat → List T → Int → Option (Int)
  | 0, _, _, _ => none
  | n + 1, n1, l2, i3 =>
    bd (f112_l_heldEffectS.l0 n n n1 l2 i3 (0 : Int)) fun r4 =>
    sm r4 (fun u5 =>
     let i6 : Int := u5
     some i6) (fun u7 =>
     let i8 : Int := u7
     some i8)
def f112_l_heldEffectS.l0.P : AS := ⟨[(0, .val false [.sl .shr [.leaf, .leaf, .sl .shr [.leaf]]] [.lst 0 []] [] 0), (1, .val false [.leaf] [.int .i64 0] [] 0), (5, .val false [.leaf] [.int .i64 0] [] 0)], 0⟩
def f112_l_heldEffectS.l0.A : Alt ((Int) ⊕ (Int)) := .or (.one .ret ⟨[(1, .dead), (4, .val false [.leaf] [.int .i64 0] [] 0)], 0⟩ sg_i) (.one (.exit 0) ⟨[(1, .val false [.leaf] [.int .i64 0] [] 0), (4, .dead)], 0⟩ sg_i)
def f112_l_heldEffectS.l0.F (n m : Nat) (v : Nat × List T × Int × Int) := f112_l_heldEffectS.l0 n m v.1 v.2.1 v.2.2.1 v.2.2.2
def f112_l_heldEffectS.l0.W (n : Nat) : LpW := .of 32 f112_l_heldEffectS.l0.P sg_lii f112_l_heldEffectS.l0.A (f112_l_heldEffectS.l0.F n n)
def f112_l_heldEffectS.P : List Arg := [⟨.val, ⟨false, [.sl .shr [.leaf, .leaf, .sl .shr [.leaf]]], [.lst 0 []]⟩⟩, ⟨.val, ⟨false, [.leaf], [.int .i64 0]⟩⟩]
def f112_l_heldEffectS.A : RAlt (Int) := .one ⟨[⟨false, [.leaf], [.int .i64 0]⟩], [none, none]⟩ sg_i
def f112_l_heldEffectS.F (n : Nat) (v : Nat × List T × Int) := f112_l_heldEffectS n v.1 v.2.1 v.2.2
noncomputable def f112_l_heldEffectS.O (n : Nat) : Orc := orcOf (E := E) [f111_l_heldFloat32S.w] [f112_l_heldEffectS.l0.W n] n
theorem f112_l_heldEffectS.l0.ok (n : Nat) : LpOk (f112_l_heldEffectS.O n) E (evalFn E n) n (keepAt 112) (.loop (loopAt c112 0)) :=
  lp_pure f112_l_heldEffectS.l0.P sg_lii f112_l_heldEffectS.l0.A (f112_l_heldEffectS.l0.F n) (orcOf_cf _ _ n) (lpOk_of (bs := []) (by kernel_rfl) .nil) (fun _ => rfl) (fun _ _ => by kernel_rfl) (fun _ _ _ => by kernel_rfl)
theorem f112_l_heldEffectS.ok : ∀ n v x, f112_l_heldEffectS.F n v = some x → evalFn E n 112 (flAs f112_l_heldEffectS.P (sg_li.pk v)) = some (f112_l_heldEffectS.A.enc x) :=
  fn_pure (modes := (fdAt 112).ms) (outs := (fdAt 112).os) (results := (fdAt 112).rs) f112_l_heldEffectS.O (c := c112) (keep := keepAt 112) (by kernel_rfl) (fun n => orcOf_cf _ _ n) (fun n => lpOk_of (bs := [loopAt c112 0]) (by kernel_rfl) (.cons (f112_l_heldEffectS.l0.ok n) .nil)) (fun _ => rfl) (fun _ _ => by kernel_rfl)
noncomputable def f112_l_heldEffectS.w : FnW E := fnW 112 f112_l_heldEffectS.P sg_li f112_l_heldEffectS.A f112_l_heldEffectS.F f112_l_heldEffectS.ok

def f79_l_heldStripS.l0 (n : Nat) : Nat → Nat → List T → Int → Int → Option ((Int) ⊕ (Int))
  | 0, _, _, _, _ => none
  | m + 1, n1, l2, i3, i4 =>
    br (decide (i4 < ((n1 : Nat) : Int))) (
     gd ((decide (((0 : Int) ≤ i4) ∧ (i4 < ((n1 : Nat) : Int)))) && (okAt [CK.lst, (CK.int IntKind.i64), (CK.flt FloatKind.f32), CK.bool, CK.bool] l2 (((Int.toNat i4) * 5) + 0))) (
     bd (f112_l_heldEffectS n (nAt l2 (((Int.toNat i4) * 5) + 0)) (lAt l2 (((Int.toNat i4) * 5) + 0)) i3) fun r5 =>
     let i6 : Int := r5
     br (decide (i6 < (0 : Int))) (
      some (Sum.inl (-1 : Int))) (
      gd ((decide (((0 : Int) ≤ i4) ∧ (i4 < ((n1 : Nat) : Int)))) && (okAt [CK.lst, (CK.int IntKind.i64), (CK.flt FloatKind.f32), CK.bool, CK.bool] l2 (((Int.toNat i4) * 5) + 0))) (
      br ((iAt l2 ((((Int.toNat i4) * 5) + 0) + 1)) != i6) (
       some (Sum.inl (-1 : Int))) (
       let i7 : Int := (IntKind.i64.wrap (i6 + (1 : Int)))
       gd ((decide (((0 : Int) ≤ i4) ∧ (i4 < ((n1 : Nat) : Int)))) && (okAt [CK.lst, (CK.int IntKind.i64), (CK.flt FloatKind.f32), CK.bool, CK.bool] l2 (((Int.toNat i4) * 5) + 0))) (
       br (fne FloatKind.f32 (fAt l2 (((((Int.toNat i4) * 5) + 0) + 1) + 1)) (FloatKind.nearest FloatKind.f32 i7)) (
        some (Sum.inl (-1 : Int))) (
        let i8 : Int := (IntKind.i64.wrap (i7 + (1 : Int)))
        gd ((decide (((0 : Int) ≤ i4) ∧ (i4 < ((n1 : Nat) : Int)))) && (okAt [CK.lst, (CK.int IntKind.i64), (CK.flt FloatKind.f32), CK.bool, CK.bool] l2 (((Int.toNat i4) * 5) + 0))) (
        br (!((bAt l2 ((((((Int.toNat i4) * 5) + 0) + 1) + 1) + 1)) == ((Int.tmod i8 (3 : Int)) == (0 : Int)))) (
         some (Sum.inl (-1 : Int))) (
         let i9 : Int := (IntKind.i64.wrap (i8 + (1 : Int)))
         gd ((decide (((0 : Int) ≤ i4) ∧ (i4 < ((n1 : Nat) : Int)))) && (okAt [CK.lst, (CK.int IntKind.i64), (CK.flt FloatKind.f32), CK.bool, CK.bool] l2 (((Int.toNat i4) * 5) + 0))) (
         br (!((bAt l2 (((((((Int.toNat i4) * 5) + 0) + 1) + 1) + 1) + 1)) == ((Int.tmod i9 (3 : Int)) == (0 : Int)))) (
          some (Sum.inl (-1 : Int))) (
          let i10 : Int := (IntKind.i64.wrap (i9 + (1 : Int)))
          f79_l_heldStripS.l0 n m n1 l2 i10 (IntKind.i64.wrap (i4 + (1 : Int)))))))))))))) (
     some (Sum.inr i3))
def f79_l_heldStripS : Nat → Nat → List T → Int → Option (Int)
  | 0, _, _, _ => none
  | n + 1, n1, l2, i3 =>
    bd (f79_l_heldStripS.l0 n n n1 l2 i3 (0 : Int)) fun r4 =>
    sm r4 (fun u5 =>
     let i6 : Int := u5
     some i6) (fun u7 =>
     let i8 : Int := u7
     some i8)
def f79_l_heldStripS.l0.P : AS := ⟨[(0, .val false [.sl .shr [.sl .shr [.leaf, .leaf, .sl .shr [.leaf]], .leaf, .leaf, .leaf, .leaf]] [.lst 0 []] [] 0), (1, .val false [.leaf] [.int .i64 0] [] 0), (5, .val false [.leaf] [.int .i64 0] [] 0)], 0⟩
def f79_l_heldStripS.l0.A : Alt ((Int) ⊕ (Int)) := .or (.one .ret ⟨[(1, .dead), (4, .val false [.leaf] [.int .i64 0] [] 0)], 0⟩ sg_i) (.one (.exit 0) ⟨[(1, .val false [.leaf] [.int .i64 0] [] 0), (4, .dead)], 0⟩ sg_i)
def f79_l_heldStripS.l0.F (n m : Nat) (v : Nat × List T × Int × Int) := f79_l_heldStripS.l0 n m v.1 v.2.1 v.2.2.1 v.2.2.2
def f79_l_heldStripS.l0.W (n : Nat) : LpW := .of 32 f79_l_heldStripS.l0.P sg_lii f79_l_heldStripS.l0.A (f79_l_heldStripS.l0.F n n)
def f79_l_heldStripS.P : List Arg := [⟨.val, ⟨false, [.sl .shr [.sl .shr [.leaf, .leaf, .sl .shr [.leaf]], .leaf, .leaf, .leaf, .leaf]], [.lst 0 []]⟩⟩, ⟨.val, ⟨false, [.leaf], [.int .i64 0]⟩⟩]
def f79_l_heldStripS.A : RAlt (Int) := .one ⟨[⟨false, [.leaf], [.int .i64 0]⟩], [none, none]⟩ sg_i
def f79_l_heldStripS.F (n : Nat) (v : Nat × List T × Int) := f79_l_heldStripS n v.1 v.2.1 v.2.2
noncomputable def f79_l_heldStripS.O (n : Nat) : Orc := orcOf (E := E) [f112_l_heldEffectS.w] [f79_l_heldStripS.l0.W n] n
theorem f79_l_heldStripS.l0.ok (n : Nat) : LpOk (f79_l_heldStripS.O n) E (evalFn E n) n (keepAt 79) (.loop (loopAt c79 0)) :=
  lp_pure f79_l_heldStripS.l0.P sg_lii f79_l_heldStripS.l0.A (f79_l_heldStripS.l0.F n) (orcOf_cf _ _ n) (lpOk_of (bs := []) (by kernel_rfl) .nil) (fun _ => rfl) (fun _ _ => by kernel_rfl) (fun _ _ _ => by kernel_rfl)
theorem f79_l_heldStripS.ok : ∀ n v x, f79_l_heldStripS.F n v = some x → evalFn E n 79 (flAs f79_l_heldStripS.P (sg_li.pk v)) = some (f79_l_heldStripS.A.enc x) :=
  fn_pure (modes := (fdAt 79).ms) (outs := (fdAt 79).os) (results := (fdAt 79).rs) f79_l_heldStripS.O (c := c79) (keep := keepAt 79) (by kernel_rfl) (fun n => orcOf_cf _ _ n) (fun n => lpOk_of (bs := [loopAt c79 0]) (by kernel_rfl) (.cons (f79_l_heldStripS.l0.ok n) .nil)) (fun _ => rfl) (fun _ _ => by kernel_rfl)
noncomputable def f79_l_heldStripS.w : FnW E := fnW 79 f79_l_heldStripS.P sg_li f79_l_heldStripS.A f79_l_heldStripS.F f79_l_heldStripS.ok

def f37_l_heldSession : Nat → Nat → List T → Nat → List T → Int → Option (Int)
  | 0, _, _, _, _, _ => none
  | n + 1, n1, l2, n3, l4, i5 =>
    bd (f78_l_heldClipS n n1 l2 i5) fun r6 =>
    let i7 : Int := r6
    br (decide (i7 < (0 : Int))) (
     some (-1 : Int)) (
     bd (f79_l_heldStripS n n3 l4 i7) fun r8 =>
     let i9 : Int := r8
     br (decide (i9 < (0 : Int))) (
      some (-1 : Int)) (
      some i9))
def f37_l_heldSession.P : List Arg := [⟨.val, ⟨true, [.sl .shr [.leaf, .leaf, .sl .shr [.leaf]], .sl .shr [.sl .shr [.leaf, .leaf, .sl .shr [.leaf]], .leaf, .leaf, .leaf, .leaf]], [.lst 0 [], .lst 0 []]⟩⟩, ⟨.val, ⟨false, [.leaf], [.int .i64 0]⟩⟩]
def f37_l_heldSession.A : RAlt (Int) := .one ⟨[⟨false, [.leaf], [.int .i64 0]⟩], [none, none]⟩ sg_i
def f37_l_heldSession.F (n : Nat) (v : Nat × List T × Nat × List T × Int) := f37_l_heldSession n v.1 v.2.1 v.2.2.1 v.2.2.2.1 v.2.2.2.2
noncomputable def f37_l_heldSession.O (n : Nat) : Orc := orcOf (E := E) [f78_l_heldClipS.w, f79_l_heldStripS.w] [] n
theorem f37_l_heldSession.ok : ∀ n v x, f37_l_heldSession.F n v = some x → evalFn E n 37 (flAs f37_l_heldSession.P (sg_lli.pk v)) = some (f37_l_heldSession.A.enc x) :=
  fn_pure (modes := (fdAt 37).ms) (outs := (fdAt 37).os) (results := (fdAt 37).rs) f37_l_heldSession.O (c := c37) (keep := keepAt 37) (by kernel_rfl) (fun n => orcOf_cf _ _ n) (fun n => lpOk_of (bs := []) (by kernel_rfl) .nil) (fun _ => rfl) (fun _ _ => by kernel_rfl)
noncomputable def f37_l_heldSession.w : FnW E := fnW 37 f37_l_heldSession.P sg_lli f37_l_heldSession.A f37_l_heldSession.F f37_l_heldSession.ok

def f6_l_FnExactEmptySession : Nat → Option (Bool)
  | 0 => none
  | n + 1 =>
    bd (f33_s_EmptySession n) fun r1 =>
    let n2 : Nat := r1.1
    let l3 : List T := r1.2.1
    let n4 : Nat := r1.2.2.1
    let l5 : List T := r1.2.2.2
    bd (f34_i_EmptySession n) fun r6 =>
    let n7 : Nat := r6.1
    let l8 : List T := r6.2.1
    let n9 : Nat := r6.2.2.1
    let l10 : List T := r6.2.2.2
    bd (f35_l_eqSession n n7 l8 n9 l10 n2 l3 n4 l5) fun r11 =>
    let b12 : Bool := r11
    br (!b12) (
     some false) (
     bd (f36_l_markSession n n7 l8 n9 l10 (1 : Int)) fun r13 =>
     let i14 : Int := r13.1
     let n15 : Nat := r13.2.1
     let l16 : List T := r13.2.2.1
     let n17 : Nat := r13.2.2.2.1
     let l18 : List T := r13.2.2.2.2
     bd (f37_l_heldSession n n15 l16 n17 l18 (1 : Int)) fun r19 =>
     let i20 : Int := r19
     br (decide (i20 < (0 : Int))) (
      some false) (
      br (i20 != i14) (
       some false) (
       bd (f34_i_EmptySession n) fun r21 =>
       let n22 : Nat := r21.1
       let l23 : List T := r21.2.1
       let n24 : Nat := r21.2.2.1
       let l25 : List T := r21.2.2.2
       bd (f35_l_eqSession n n22 l23 n24 l25 n2 l3 n4 l5) fun r26 =>
       let b27 : Bool := r26
       br (!b27) (
        some false) (
        bd (f37_l_heldSession n n15 l16 n17 l18 (1 : Int)) fun r28 =>
        let i29 : Int := r28
        br (decide (i29 < (0 : Int))) (
         some false) (
         br (i29 != i14) (
          some false) (
          some true))))))
def f6_l_FnExactEmptySession.P : List Arg := []
def f6_l_FnExactEmptySession.A : RAlt (Bool) := .one ⟨[⟨false, [.leaf], [.bool false]⟩], []⟩ sg_b
def f6_l_FnExactEmptySession.F (n : Nat) (v : Unit) := f6_l_FnExactEmptySession n
noncomputable def f6_l_FnExactEmptySession.O (n : Nat) : Orc := orcOf (E := E) [f33_s_EmptySession.w, f34_i_EmptySession.w, f35_l_eqSession.w, f36_l_markSession.w, f37_l_heldSession.w] [] n
theorem f6_l_FnExactEmptySession.ok : ∀ n v x, f6_l_FnExactEmptySession.F n v = some x → evalFn E n 6 (flAs f6_l_FnExactEmptySession.P (sg.pk v)) = some (f6_l_FnExactEmptySession.A.enc x) :=
  fn_pure (modes := (fdAt 6).ms) (outs := (fdAt 6).os) (results := (fdAt 6).rs) f6_l_FnExactEmptySession.O (c := c6) (keep := keepAt 6) (by kernel_rfl) (fun n => orcOf_cf _ _ n) (fun n => lpOk_of (bs := []) (by kernel_rfl) .nil) (fun _ => rfl) (fun _ _ => by kernel_rfl)
noncomputable def f6_l_FnExactEmptySession.w : FnW E := fnW 6 f6_l_FnExactEmptySession.P sg f6_l_FnExactEmptySession.A f6_l_FnExactEmptySession.F f6_l_FnExactEmptySession.ok
end Go.Proofs.Ytmomholbdekanaa.D
end
section
/- FnExactEmptySession, in plain Lean. -/
namespace Go.Proofs.Ytmomholbdekanaa.D
open Go Go.Desk
set_option linter.unusedVariables false
theorem exact_ : ∃ n, f6_l_FnExactEmptySession n = some true := ⟨50, by decide +kernel⟩
theorem law6 : ∀ args, LawArgs E Try.f6.params.toList args → ∃ N os, evalFn E N 6 args = some ⟨[⟨false, [.leaf], [.bool true]⟩], os⟩ := by
  intro args h0
  have hp : Try.f6.params.toList = [] := by kernel_rfl
  rw [hp] at h0
  obtain rfl := h0.nil_inv
  obtain ⟨N, hN⟩ := exact_ 
  exact ⟨N, _, f6_l_FnExactEmptySession.ok N () true hN⟩


end Go.Proofs.Ytmomholbdekanaa.D
end
section
/- FnExactEmptySession holds: for every input the law returns true, and its arguments read as before. -/
namespace Go.Proofs.Ytmomholbdekanaa.fnExactEmptySession
open Go Go.ChangeShapes Go.WideShapes Go.ChangeAt Go.RowKit Go.Desk
set_option linter.unusedVariables false
theorem own : ownKnob Try.prog.godebug = none := by kernel_rfl
theorem laidOut : laidOutB Try.prog = true := by kernel_rfl
set_option maxRecDepth 100000 in
theorem lifted (os : Os) (started : os.Started) (H : Type) (enc : TypeId × Value → H) :
    ReturnsInHanded {} Try.checked os 6 .any (Rows.fnExactEmptySessionSpec.pre6 enc Try.prog Try.f6 Rows.fnExactEmptySessionRow.domain false) (Rows.fnExactEmptySessionSpec.post enc Try.prog Try.f6 false true false false) := by
  refine returnsInHanded_of_change (C := Try.checked) own started (by kernel_rfl) Try.func6
    (ChangeSpec.witness6 (enc := enc) (C := Try.checked) false ⟨#[], #[], []⟩ 8 (by kernel_rfl) (by kernel_rfl) (by kernel_rfl) (by kernel_rfl)) ?_
  intro W base args ds gs before hval hW hcnd _
  exact law_contract (c := D.c6) Try.checked.mixed D.tysOk D.fnOk Try.func6 (by kernel_rfl) (by kernel_rfl) (by kernel_rfl) Try.underlying4 rfl
    (fun ds h => by
      rw [show Try.f6.params.toList.length = 0 by kernel_rfl] at h
      match ds, h with
      | [], _ => rfl)
    laidOut (N := 8) (by kernel_rfl) (by kernel_rfl) D.law6 hval hW
theorem over : Rows.fnExactEmptySessionRow.holds Try.pinned (OpenSpec.ofChange Rows.fnExactEmptySessionSpec) :=
  OpenClaim.holds_of_wide 6 Try.f6 rfl rfl rfl rfl rfl rfl rfl ⟨rfl, rfl, rfl, rfl, rfl⟩ rfl rfl rfl rfl rfl (by kernel_rfl) Try.func6 (by kernel_rfl)
    (of_decide_eq_true (by kernel_rfl)) (by unfold Func.isWrapper; first | (rw [if_pos (by decide +kernel)]; kernel_rfl) | (rw [if_neg (by decide +kernel)]; exact ⟨rfl, rfl⟩))
    (fun os started H enc _ => lifted os started H enc)
theorem proved : Rows.FnExactEmptySessionSaid := over
#print axioms proved
end Go.Proofs.Ytmomholbdekanaa.fnExactEmptySession
namespace Go.Proofs.Ytmomholbdekanaa
/-- The row, under a short name, for the claim. -/
theorem fnExactEmptySession_holds : Rows.FnExactEmptySessionSaid := fnExactEmptySession.proved
end Go.Proofs.Ytmomholbdekanaa
end
