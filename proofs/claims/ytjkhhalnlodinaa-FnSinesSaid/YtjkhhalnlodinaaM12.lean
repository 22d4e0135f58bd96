/- FnSines holds: for every input the law returns true, and its arguments read as before. -/
import Derived.Test.YtjkhhalnlodinaaChecked
import Derived.Test.YtjkhhalnlodinaaDeskF
import Derived.KernelRfl
import Derived.Test.YtjkhhalnlodinaaRows
import Derived.WalkKit
import Derived.ProofKit
import Derived.OpenShut
import Derived.ShutString
import Derived.ChangeOld
import Derived.Below
import Derived.SizedLaws
set_option linter.all false
section
/- What math.Abs owes: tables of its own, and the reading of its code. -/
namespace Go.Proofs.Ytjkhhalnlodinaa.DA
open Go Go.Desk
def bodyOf (f : Func) : Code := match f.body with
  | some c => c
  | none => .skip
def tyTab : List (Nat × TD) := [
  (34, ⟨false, 1, 8, [.leaf], [.flt .f64 0], .flt .f64⟩),
  (174, ⟨false, 1, 8, [.leaf], [.int .u64 0], .int .u64⟩)]
noncomputable def c179 : Code := bodyOf Try.f179
noncomputable def fnTab : List (Nat × FD) := [
  (178, .ext (pF64frombits)),
  (179, .code c179 [.val] [] [(2, none)] [(0, [0]), (1, [0])]),
  (189, .ext (pF64bits))]
noncomputable def E : Env := ⟨fun t => lookT tyTab t, lookF fnTab⟩
noncomputable def fdAt (n : Nat) : FD := match lookF fnTab n with
  | some d => d
  | none => .ext fun _ => none
noncomputable def keepAt (n : Nat) : List (Nat × List Nat) := match lookF fnTab n with
  | some d => d.keep
  | none => []
theorem tysOk : TysOk Try.prog E := tysOk_of (l := tyTab) (fun _ => rfl) (by kernel_rfl)
theorem ft178 : FnTab Try.prog E 178 (.ext (pF64frombits)) := ext_pF64frombits Try.func178 (by kernel_rfl) (by kernel_rfl) (by kernel_rfl) (by kernel_rfl)
theorem ft179 : FnTab Try.prog E 179 (fdAt 179) := fnTab_code (c := c179) (modes := (fdAt 179).ms) (outs := (fdAt 179).os) (results := (fdAt 179).rs) (keep := (fdAt 179).keep) Try.func179 (by kernel_rfl) (by kernel_rfl) (by kernel_rfl)
theorem ft189 : FnTab Try.prog E 189 (.ext (pF64bits)) := ext_pF64bits Try.func189 (by kernel_rfl) (by kernel_rfl) (by kernel_rfl) (by kernel_rfl)
theorem allFns : AllFns Try.prog E fnTab := .cons ft178 (.cons ft179 (.cons ft189 (.nil)))
theorem fnOk : ∀ f fd, E.fn f = some fd → FnTab Try.prog E f fd := fnTab_of (l := fnTab) (fun _ => rfl) allFns
end Go.Proofs.Ytjkhhalnlodinaa.DA
section
namespace Go.Proofs.Ytjkhhalnlodinaa.DA
open Go Go.Desk
set_option linter.unusedVariables false
noncomputable def x178.w : FnW E := xF64frombits.w 178 (by kernel_rfl)

noncomputable def x189.w : FnW E := xF64bits.w 189 (by kernel_rfl)

def f179_mathAbs : Nat → Nat → Option (Nat)
  | 0, _ => none
  | n + 1, x1 =>
    bd (xF64bits n x1) fun r2 =>
    let i3 : Int := r2
    bd (xF64frombits n (intBits BinOp.andNot IntKind.u64 i3 (9223372036854775808 : Int))) fun r4 =>
    let x5 : Nat := r4
    some x5
def sg_f : Sig (Nat) where
  pk := fun v => [.flt v]
  up := fun ls => match ls with
    | [.flt a0] => some a0
    | _ => none
  ok := by
    intro ls v h
    split at h
    · cases h; rfl
    · cases h

def f179_mathAbs.P : List Arg := [⟨.val, ⟨false, [.leaf], [.flt .f64 0]⟩⟩]
def f179_mathAbs.A : RAlt (Nat) := .one ⟨[⟨false, [.leaf], [.flt .f64 0]⟩], [none]⟩ sg_f
def f179_mathAbs.F (n : Nat) (v : Nat) := f179_mathAbs n v
noncomputable def f179_mathAbs.O (n : Nat) : Orc := orcOf (E := E) [x178.w, x189.w] [] n
theorem f179_mathAbs.ok : ∀ n v x, f179_mathAbs.F n v = some x → evalFn E n 179 (flAs f179_mathAbs.P (sg_f.pk v)) = some (f179_mathAbs.A.enc x) :=
  fn_pure (modes := (fdAt 179).ms) (outs := (fdAt 179).os) (results := (fdAt 179).rs) f179_mathAbs.O (c := c179) (keep := keepAt 179) (by kernel_rfl) (fun n => orcOf_cf _ _ n) (fun n => lpOk_of (bs := []) (by kernel_rfl) .nil) (fun _ => rfl) (fun _ _ => by kernel_rfl)
noncomputable def f179_mathAbs.w : FnW E := fnW 179 f179_mathAbs.P sg_f f179_mathAbs.A f179_mathAbs.F f179_mathAbs.ok
end Go.Proofs.Ytjkhhalnlodinaa.DA
end
namespace Go.Proofs.Ytjkhhalnlodinaa.DA
open Go Go.Desk
theorem absOk : ExtOk Try.prog 179 pAbs := ext_pAbs_of Try.checked.mixed tysOk fnOk
  (fun x hN hx => ⟨3, f179_mathAbs.ok 3 x _ (abs_plain 1 hN)⟩)
  ⟨5, by kernel_rfl⟩
end Go.Proofs.Ytjkhhalnlodinaa.DA
end
section
/- What math.Copysign owes: tables of its own, and the reading of its code. -/
namespace Go.Proofs.Ytjkhhalnlodinaa.DC
open Go Go.Desk
def bodyOf (f : Func) : Code := match f.body with
  | some c => c
  | none => .skip
def tyTab : List (Nat × TD) := [
  (34, ⟨false, 1, 8, [.leaf], [.flt .f64 0], .flt .f64⟩),
  (174, ⟨false, 1, 8, [.leaf], [.int .u64 0], .int .u64⟩)]
noncomputable def c196 : Code := bodyOf Try.f196
noncomputable def fnTab : List (Nat × FD) := [
  (178, .ext (pF64frombits)),
  (189, .ext (pF64bits)),
  (196, .code c196 [.val, .val] [] [(4, none)] [(0, [0, 1]), (1, [0, 1])])]
noncomputable def E : Env := ⟨fun t => lookT tyTab t, lookF fnTab⟩
noncomputable def fdAt (n : Nat) : FD := match lookF fnTab n with
  | some d => d
  | none => .ext fun _ => none
noncomputable def keepAt (n : Nat) : List (Nat × List Nat) := match lookF fnTab n with
  | some d => d.keep
  | none => []
theorem tysOk : TysOk Try.prog E := tysOk_of (l := tyTab) (fun _ => rfl) (by kernel_rfl)
theorem ft178 : FnTab Try.prog E 178 (.ext (pF64frombits)) := ext_pF64frombits Try.func178 (by kernel_rfl) (by kernel_rfl) (by kernel_rfl) (by kernel_rfl)
theorem ft189 : FnTab Try.prog E 189 (.ext (pF64bits)) := ext_pF64bits Try.func189 (by kernel_rfl) (by kernel_rfl) (by kernel_rfl) (by kernel_rfl)
theorem ft196 : FnTab Try.prog E 196 (fdAt 196) := fnTab_code (c := c196) (modes := (fdAt 196).ms) (outs := (fdAt 196).os) (results := (fdAt 196).rs) (keep := (fdAt 196).keep) Try.func196 (by kernel_rfl) (by kernel_rfl) (by kernel_rfl)
theorem allFns : AllFns Try.prog E fnTab := .cons ft178 (.cons ft189 (.cons ft196 (.nil)))
theorem fnOk : ∀ f fd, E.fn f = some fd → FnTab Try.prog E f fd := fnTab_of (l := fnTab) (fun _ => rfl) allFns
end Go.Proofs.Ytjkhhalnlodinaa.DC
section
namespace Go.Proofs.Ytjkhhalnlodinaa.DC
open Go Go.Desk
set_option linter.unusedVariables false
noncomputable def x178.w : FnW E := xF64frombits.w 178 (by kernel_rfl)

noncomputable def x189.w : FnW E := xF64bits.w 189 (by kernel_rfl)

def f196_mathCopysign : Nat → Nat → Nat → Option (Nat)
  | 0, _, _ => none
  | n + 1, x1, x2 =>
    bd (xF64bits n x1) fun r3 =>
    let i4 : Int := r3
    bd (xF64bits n x2) fun r5 =>
    let i6 : Int := r5
    bd (xF64frombits n (intBits BinOp.or IntKind.u64 (intBits BinOp.andNot IntKind.u64 i4 (9223372036854775808 : Int)) (intBits BinOp.and IntKind.u64 i6 (9223372036854775808 : Int)))) fun r7 =>
    let x8 : Nat := r7
    some x8
def sg_ff : Sig (Nat × Nat) where
  pk := fun v => [.flt v.1, .flt v.2]
  up := fun ls => match ls with
    | [.flt a0, .flt a1] => some (a0, a1)
    | _ => none
  ok := by
    intro ls v h
    split at h
    · cases h; rfl
    · cases h

def sg_f : Sig (Nat) where
  pk := fun v => [.flt v]
  up := fun ls => match ls with
    | [.flt a0] => some a0
    | _ => none
  ok := by
    intro ls v h
    split at h
    · cases h; rfl
    · cases h

def f196_mathCopysign.P : List Arg := [⟨.val, ⟨false, [.leaf], [.flt .f64 0]⟩⟩, ⟨.val, ⟨false, [.leaf], [.flt .f64 0]⟩⟩]
def f196_mathCopysign.A : RAlt (Nat) := .one ⟨[⟨false, [.leaf], [.flt .f64 0]⟩], [none, none]⟩ sg_f
def f196_mathCopysign.F (n : Nat) (v : Nat × Nat) := f196_mathCopysign n v.1 v.2
noncomputable def f196_mathCopysign.O (n : Nat) : Orc := orcOf (E := E) [x178.w, x189.w] [] n
theorem f196_mathCopysign.ok : ∀ n v x, f196_mathCopysign.F n v = some x → evalFn E n 196 (flAs f196_mathCopysign.P (sg_ff.pk v)) = some (f196_mathCopysign.A.enc x) :=
  fn_pure (modes := (fdAt 196).ms) (outs := (fdAt 196).os) (results := (fdAt 196).rs) f196_mathCopysign.O (c := c196) (keep := keepAt 196) (by kernel_rfl) (fun n => orcOf_cf _ _ n) (fun n => lpOk_of (bs := []) (by kernel_rfl) .nil) (fun _ => rfl) (fun _ _ => by kernel_rfl)
noncomputable def f196_mathCopysign.w : FnW E := fnW 196 f196_mathCopysign.P sg_ff f196_mathCopysign.A f196_mathCopysign.F f196_mathCopysign.ok
end Go.Proofs.Ytjkhhalnlodinaa.DC
end
namespace Go.Proofs.Ytjkhhalnlodinaa.DC
open Go Go.Desk
theorem signOk : ExtOk Try.prog 196 pCopysign := ext_pCopysign_of Try.checked.mixed tysOk fnOk
  (fun x s hx hs hx' hs' => ⟨3, f196_mathCopysign.ok 3 (x, s) _ (copysign_plain 1 hx hs hx' hs')⟩)
end Go.Proofs.Ytjkhhalnlodinaa.DC
end
section
/- The tables of the reading: types and functions of the translation, with what is kept at each region's beginning (written by a program of this workplace). -/
namespace Go.Proofs.Ytjkhhalnlodinaa.D
open Go Go.Desk
def bodyOf (f : Func) : Code := match f.body with
  | some c => c
  | none => .skip
def tyTab : List (Nat × TD) := [
  (2, ⟨false, 1, 8, [.leaf], [.int .i64 0], .int .i64⟩),
  (3, ⟨false, 1, 8, [.leaf], [.int .i64 0], .int .i64⟩),
  (4, ⟨false, 1, 1, [.leaf], [.bool false], .bool⟩),
  (5, ⟨false, 1, 1, [.leaf], [.int .u8 0], .int .u8⟩),
  (22, ⟨false, 1, 24, [.sl .own [.leaf]], [.lst 0 []], .slc 5⟩),
  (29, ⟨false, 1, 4, [.leaf], [.flt .f32 0], .flt .f32⟩),
  (34, ⟨false, 1, 8, [.leaf], [.flt .f64 0], .flt .f64⟩),
  (35, ⟨false, 1, 8, [.leaf], [.int .u64 0], .int .u64⟩),
  (120, ⟨false, 1, 8, [.leaf], [.nil], .ptr 176⟩),
  (174, ⟨false, 1, 8, [.leaf], [.int .u64 0], .int .u64⟩),
  (176, ⟨true, 3, 40, [.sl .own [.leaf], .leaf, .leaf], [.lst 0 [], .int .i64 0, .int .u64 0], .st [(0, 22), (1, 3), (2, 174)]⟩)]
noncomputable def c12 : Code := bodyOf Try.f12
noncomputable def c28 : Code := bodyOf Try.f28
noncomputable def c29 : Code := bodyOf Try.f29
noncomputable def c69 : Code := bodyOf Try.f69
noncomputable def c70 : Code := bodyOf Try.f70
noncomputable def c71 : Code := bodyOf Try.f71
noncomputable def c72 : Code := bodyOf Try.f72
noncomputable def c73 : Code := bodyOf Try.f73
noncomputable def c74 : Code := bodyOf Try.f74
noncomputable def c75 : Code := bodyOf Try.f75
noncomputable def c76 : Code := bodyOf Try.f76
noncomputable def c90 : Code := bodyOf Try.f90
noncomputable def c91 : Code := bodyOf Try.f91
noncomputable def c93 : Code := bodyOf Try.f93
noncomputable def c97 : Code := bodyOf Try.f97
noncomputable def c127 : Code := bodyOf Try.f127
noncomputable def c136 : Code := bodyOf Try.f136
noncomputable def c144 : Code := bodyOf Try.f144
noncomputable def c145 : Code := bodyOf Try.f145
noncomputable def c146 : Code := bodyOf Try.f146
noncomputable def c147 : Code := bodyOf Try.f147
noncomputable def c148 : Code := bodyOf Try.f148
noncomputable def c149 : Code := bodyOf Try.f149
noncomputable def c150 : Code := bodyOf Try.f150
noncomputable def c151 : Code := bodyOf Try.f151
noncomputable def c158 : Code := bodyOf Try.f158
noncomputable def c163 : Code := bodyOf Try.f163
noncomputable def c180 : Code := bodyOf Try.f180
noncomputable def c190 : Code := bodyOf Try.f190
noncomputable def c198 : Code := bodyOf Try.f198
noncomputable def fnTab : List (Nat × FD) := [
  (12, .code c12 [.val, .val] [] [(4, none)] [(0, [0, 1]), (1, [0, 1]), (2, []), (3, [0, 1]), (4, [1, 5]), (5, [1, 5, 6]), (6, [1, 5, 6, 7]), (7, [1, 5, 6, 7, 8]), (8, [1, 6, 7, 8, 9]), (9, []), (10, [1]), (11, [1, 10]), (12, [10, 11]), (13, [10, 11, 12, 13]), (14, [10, 11, 12, 13, 14, 15]), (15, [12, 13, 14, 15, 16, 17]), (16, [12, 13, 14, 15, 16, 17, 18, 19]), (17, [13, 15, 17, 18, 19, 20]), (18, []), (19, []), (20, [21]), (21, [22])]),
  (28, .code c28 [.val, .val] [] [(4, none)] [(0, [0, 1]), (1, [0, 1])]),
  (29, .code c29 [.val, .val, .val] [] [(6, none)] [(0, [0, 1, 2]), (1, [0, 1, 2]), (2, []), (3, [0, 1, 2]), (4, [0, 1, 2]), (5, [1, 2])]),
  (69, .code c69 [.val] [] [(2, none)] [(0, [0]), (1, [0]), (2, [3])]),
  (70, .code c70 [.val] [] [(2, none)] [(0, [0]), (1, [0]), (2, [3]), (3, []), (4, [3]), (5, []), (6, [3])]),
  (71, .code c71 [.val, .val] [] [(4, none)] [(0, [0, 1]), (1, [0, 1]), (2, [0, 1]), (3, [0, 1])]),
  (72, .code c72 [.val] [] [(2, none), (3, none)] [(0, [0]), (1, [0]), (2, []), (3, [0])]),
  (73, .code c73 [.val] [] [(2, none)] [(0, [0]), (1, [0]), (2, []), (3, [0]), (4, []), (5, [0]), (6, [3, 4]), (7, [3, 4, 5]), (8, [3, 4, 5]), (9, [3, 4, 5]), (10, [4]), (11, [4, 6]), (12, [4, 6]), (13, [4, 6]), (14, [4]), (1000007, [4]), (1000011, [4])]),
  (74, .code c74 [.val] [] [(2, none)] [(0, [0]), (1, [0]), (2, []), (3, [0]), (4, []), (5, [0]), (6, [0]), (7, [0])]),
  (75, .code c75 [.val] [] [(2, none)] [(0, [0]), (1, [0])]),
  (76, .code c76 [.val] [] [(2, none)] [(0, [0]), (1, [0]), (2, []), (3, [0]), (4, []), (5, [0]), (6, [3])]),
  (90, .code c90 [.val] [] [(2, none)] [(0, [0]), (1, [0])]),
  (91, .code c91 [.iop] [0] [(2, none)] [(0, [0]), (1, [0]), (2, [0, 3]), (3, [0, 3]), (4, [0, 3])]),
  (93, .code c93 [.val, .val, .val] [] [(6, none)] [(0, [0, 1, 2]), (1, [0, 1, 2])]),
  (97, .code c97 [.iop, .val] [0] [(4, none)] [(0, [0, 1]), (1, [0, 1]), (2, [0]), (3, [0, 1]), (4, [0, 1, 5]), (5, [0, 1, 5]), (6, [0, 1, 5])]),
  (127, .code c127 [.val] [] [(2, none)] [(0, [0]), (1, [0])]),
  (136, .code c136 [.val] [] [(2, none)] [(0, [0]), (1, [0])]),
  (144, .code c144 [] [] [(0, none)] [(0, []), (1, [])]),
  (145, .code c145 [.val] [] [(2, none)] [(0, [0]), (1, [0])]),
  (146, .code c146 [.val] [] [(2, none)] [(0, [0]), (1, [0]), (2, [3]), (3, [3, 4]), (4, [3, 4]), (5, [3, 4]), (6, [3, 4]), (7, [3, 4]), (8, [4, 5]), (9, [4, 5, 6]), (10, [4, 5, 6, 7]), (11, [4, 5, 6, 7, 8]), (12, [4, 5, 6, 7, 8]), (13, [4, 5, 6, 7, 8]), (14, [4, 5, 7]), (15, [5, 7]), (16, [5, 7]), (1000011, [4, 5, 7])]),
  (147, .code c147 [.val] [] [(2, none)] [(0, [0]), (1, [0])]),
  (148, .code c148 [.val] [] [(2, none)] [(0, [0]), (1, [0]), (2, []), (3, [0]), (4, []), (5, [0]), (6, [3, 4]), (7, [3, 4, 5]), (8, [3, 4, 5]), (9, [3, 4, 5]), (10, [4]), (11, [4, 6]), (12, [4, 6]), (13, [4, 6]), (14, [4]), (1000007, [4]), (1000011, [4])]),
  (149, .code c149 [.val] [] [(2, none)] [(0, [0]), (1, [0]), (2, [0]), (3, []), (4, []), (5, [3])]),
  (150, .code c150 [.val] [] [(2, none)] [(0, [0]), (1, [0]), (2, [0, 3]), (3, [0, 3]), (4, [0, 3]), (5, [0, 3]), (6, [0, 3]), (7, [0, 3]), (8, [0, 3]), (9, [3, 4]), (10, [3, 4, 5, 6]), (11, [3, 4, 5, 6, 7]), (12, [3, 4, 5, 6, 7]), (13, [3, 4, 5, 6, 7]), (14, [3, 4, 6]), (1000002, [0, 3]), (1000005, [0, 3]), (1000011, [3, 4, 6])]),
  (151, .code c151 [.val] [] [(2, none)] [(0, [0]), (1, [0])]),
  (158, .code c158 [.iop, .val] [0] [(4, none)] [(0, [0, 1]), (1, [0, 1])]),
  (163, .code c163 [.iop] [0] [(2, none)] [(0, [0]), (1, [0]), (2, [0, 3]), (3, [0]), (4, [0, 3]), (5, [0, 3]), (6, [0, 3]), (7, [0, 3]), (8, [0])]),
  (178, .ext (pF64frombits)),
  (179, .ext (pAbs)),
  (180, .code c180 [.val] [] [(2, none)] [(0, [0]), (1, [0]), (2, [0, 3]), (3, [0]), (4, [0, 3]), (5, [4]), (6, [4]), (7, [4])]),
  (181, .ext (pSqrt)),
  (189, .ext (pF64bits)),
  (190, .code c190 [.val] [] [(2, none)] [(0, [0]), (1, [0]), (2, [0])]),
  (196, .ext (pCopysign)),
  (197, .ext (pIntegral .zero)),
  (198, .code c198 [.val] [] [(2, none)] [(0, [0]), (1, [0]), (2, [0]), (3, [0]), (4, [3]), (5, [3, 4]), (6, [3, 4]), (7, [3])])]
noncomputable def E : Env := ⟨fun t => lookT tyTab t, lookF fnTab⟩
noncomputable def fdAt (n : Nat) : FD := match lookF fnTab n with
  | some d => d
  | none => .ext fun _ => none
noncomputable def keepAt (n : Nat) : List (Nat × List Nat) := match lookF fnTab n with
  | some d => d.keep
  | none => []
theorem tysOk : TysOk Try.prog E := tysOk_of (l := tyTab) (fun _ => rfl) (by kernel_rfl)
theorem ft12 : FnTab Try.prog E 12 (fdAt 12) := fnTab_code (c := c12) (modes := (fdAt 12).ms) (outs := (fdAt 12).os) (results := (fdAt 12).rs) (keep := (fdAt 12).keep) Try.func12 (by kernel_rfl) (by kernel_rfl) (by kernel_rfl)
theorem ft28 : FnTab Try.prog E 28 (fdAt 28) := fnTab_code (c := c28) (modes := (fdAt 28).ms) (outs := (fdAt 28).os) (results := (fdAt 28).rs) (keep := (fdAt 28).keep) Try.func28 (by kernel_rfl) (by kernel_rfl) (by kernel_rfl)
theorem ft29 : FnTab Try.prog E 29 (fdAt 29) := fnTab_code (c := c29) (modes := (fdAt 29).ms) (outs := (fdAt 29).os) (results := (fdAt 29).rs) (keep := (fdAt 29).keep) Try.func29 (by kernel_rfl) (by kernel_rfl) (by kernel_rfl)
theorem ft69 : FnTab Try.prog E 69 (fdAt 69) := fnTab_code (c := c69) (modes := (fdAt 69).ms) (outs := (fdAt 69).os) (results := (fdAt 69).rs) (keep := (fdAt 69).keep) Try.func69 (by kernel_rfl) (by kernel_rfl) (by kernel_rfl)
theorem ft70 : FnTab Try.prog E 70 (fdAt 70) := fnTab_code (c := c70) (modes := (fdAt 70).ms) (outs := (fdAt 70).os) (results := (fdAt 70).rs) (keep := (fdAt 70).keep) Try.func70 (by kernel_rfl) (by kernel_rfl) (by kernel_rfl)
theorem ft71 : FnTab Try.prog E 71 (fdAt 71) := fnTab_code (c := c71) (modes := (fdAt 71).ms) (outs := (fdAt 71).os) (results := (fdAt 71).rs) (keep := (fdAt 71).keep) Try.func71 (by kernel_rfl) (by kernel_rfl) (by kernel_rfl)
theorem ft72 : FnTab Try.prog E 72 (fdAt 72) := fnTab_code (c := c72) (modes := (fdAt 72).ms) (outs := (fdAt 72).os) (results := (fdAt 72).rs) (keep := (fdAt 72).keep) Try.func72 (by kernel_rfl) (by kernel_rfl) (by kernel_rfl)
theorem ft73 : FnTab Try.prog E 73 (fdAt 73) := fnTab_code (c := c73) (modes := (fdAt 73).ms) (outs := (fdAt 73).os) (results := (fdAt 73).rs) (keep := (fdAt 73).keep) Try.func73 (by kernel_rfl) (by kernel_rfl) (by kernel_rfl)
theorem ft74 : FnTab Try.prog E 74 (fdAt 74) := fnTab_code (c := c74) (modes := (fdAt 74).ms) (outs := (fdAt 74).os) (results := (fdAt 74).rs) (keep := (fdAt 74).keep) Try.func74 (by kernel_rfl) (by kernel_rfl) (by kernel_rfl)
theorem ft75 : FnTab Try.prog E 75 (fdAt 75) := fnTab_code (c := c75) (modes := (fdAt 75).ms) (outs := (fdAt 75).os) (results := (fdAt 75).rs) (keep := (fdAt 75).keep) Try.func75 (by kernel_rfl) (by kernel_rfl) (by kernel_rfl)
theorem ft76 : FnTab Try.prog E 76 (fdAt 76) := fnTab_code (c := c76) (modes := (fdAt 76).ms) (outs := (fdAt 76).os) (results := (fdAt 76).rs) (keep := (fdAt 76).keep) Try.func76 (by kernel_rfl) (by kernel_rfl) (by kernel_rfl)
theorem ft90 : FnTab Try.prog E 90 (fdAt 90) := fnTab_code (c := c90) (modes := (fdAt 90).ms) (outs := (fdAt 90).os) (results := (fdAt 90).rs) (keep := (fdAt 90).keep) Try.func90 (by kernel_rfl) (by kernel_rfl) (by kernel_rfl)
theorem ft91 : FnTab Try.prog E 91 (fdAt 91) := fnTab_code (c := c91) (modes := (fdAt 91).ms) (outs := (fdAt 91).os) (results := (fdAt 91).rs) (keep := (fdAt 91).keep) Try.func91 (by kernel_rfl) (by kernel_rfl) (by kernel_rfl)
theorem ft93 : FnTab Try.prog E 93 (fdAt 93) := fnTab_code (c := c93) (modes := (fdAt 93).ms) (outs := (fdAt 93).os) (results := (fdAt 93).rs) (keep := (fdAt 93).keep) Try.func93 (by kernel_rfl) (by kernel_rfl) (by kernel_rfl)
theorem ft97 : FnTab Try.prog E 97 (fdAt 97) := fnTab_code (c := c97) (modes := (fdAt 97).ms) (outs := (fdAt 97).os) (results := (fdAt 97).rs) (keep := (fdAt 97).keep) Try.func97 (by kernel_rfl) (by kernel_rfl) (by kernel_rfl)
theorem ft127 : FnTab Try.prog E 127 (fdAt 127) := fnTab_code (c := c127) (modes := (fdAt 127).ms) (outs := (fdAt 127).os) (results := (fdAt 127).rs) (keep := (fdAt 127).keep) Try.func127 (by kernel_rfl) (by kernel_rfl) (by kernel_rfl)
theorem ft136 : FnTab Try.prog E 136 (fdAt 136) := fnTab_code (c := c136) (modes := (fdAt 136).ms) (outs := (fdAt 136).os) (results := (fdAt 136).rs) (keep := (fdAt 136).keep) Try.func136 (by kernel_rfl) (by kernel_rfl) (by kernel_rfl)
theorem ft144 : FnTab Try.prog E 144 (fdAt 144) := fnTab_code (c := c144) (modes := (fdAt 144).ms) (outs := (fdAt 144).os) (results := (fdAt 144).rs) (keep := (fdAt 144).keep) Try.func144 (by kernel_rfl) (by kernel_rfl) (by kernel_rfl)
theorem ft145 : FnTab Try.prog E 145 (fdAt 145) := fnTab_code (c := c145) (modes := (fdAt 145).ms) (outs := (fdAt 145).os) (results := (fdAt 145).rs) (keep := (fdAt 145).keep) Try.func145 (by kernel_rfl) (by kernel_rfl) (by kernel_rfl)
theorem ft146 : FnTab Try.prog E 146 (fdAt 146) := fnTab_code (c := c146) (modes := (fdAt 146).ms) (outs := (fdAt 146).os) (results := (fdAt 146).rs) (keep := (fdAt 146).keep) Try.func146 (by kernel_rfl) (by kernel_rfl) (by kernel_rfl)
theorem ft147 : FnTab Try.prog E 147 (fdAt 147) := fnTab_code (c := c147) (modes := (fdAt 147).ms) (outs := (fdAt 147).os) (results := (fdAt 147).rs) (keep := (fdAt 147).keep) Try.func147 (by kernel_rfl) (by kernel_rfl) (by kernel_rfl)
theorem ft148 : FnTab Try.prog E 148 (fdAt 148) := fnTab_code (c := c148) (modes := (fdAt 148).ms) (outs := (fdAt 148).os) (results := (fdAt 148).rs) (keep := (fdAt 148).keep) Try.func148 (by kernel_rfl) (by kernel_rfl) (by kernel_rfl)
theorem ft149 : FnTab Try.prog E 149 (fdAt 149) := fnTab_code (c := c149) (modes := (fdAt 149).ms) (outs := (fdAt 149).os) (results := (fdAt 149).rs) (keep := (fdAt 149).keep) Try.func149 (by kernel_rfl) (by kernel_rfl) (by kernel_rfl)
theorem ft150 : FnTab Try.prog E 150 (fdAt 150) := fnTab_code (c := c150) (modes := (fdAt 150).ms) (outs := (fdAt 150).os) (results := (fdAt 150).rs) (keep := (fdAt 150).keep) Try.func150 (by kernel_rfl) (by kernel_rfl) (by kernel_rfl)
theorem ft151 : FnTab Try.prog E 151 (fdAt 151) := fnTab_code (c := c151) (modes := (fdAt 151).ms) (outs := (fdAt 151).os) (results := (fdAt 151).rs) (keep := (fdAt 151).keep) Try.func151 (by kernel_rfl) (by kernel_rfl) (by kernel_rfl)
theorem ft158 : FnTab Try.prog E 158 (fdAt 158) := fnTab_code (c := c158) (modes := (fdAt 158).ms) (outs := (fdAt 158).os) (results := (fdAt 158).rs) (keep := (fdAt 158).keep) Try.func158 (by kernel_rfl) (by kernel_rfl) (by kernel_rfl)
theorem ft163 : FnTab Try.prog E 163 (fdAt 163) := fnTab_code (c := c163) (modes := (fdAt 163).ms) (outs := (fdAt 163).os) (results := (fdAt 163).rs) (keep := (fdAt 163).keep) Try.func163 (by kernel_rfl) (by kernel_rfl) (by kernel_rfl)
theorem ft178 : FnTab Try.prog E 178 (.ext (pF64frombits)) := ext_pF64frombits Try.func178 (by kernel_rfl) (by kernel_rfl) (by kernel_rfl) (by kernel_rfl)
theorem ft179 : FnTab Try.prog E 179 (.ext (pAbs)) := DA.absOk
theorem ft180 : FnTab Try.prog E 180 (fdAt 180) := fnTab_code (c := c180) (modes := (fdAt 180).ms) (outs := (fdAt 180).os) (results := (fdAt 180).rs) (keep := (fdAt 180).keep) Try.func180 (by kernel_rfl) (by kernel_rfl) (by kernel_rfl)
theorem ft181 : FnTab Try.prog E 181 (.ext (pSqrt)) := ext_pSqrt Try.func181 (by kernel_rfl) (by kernel_rfl) (by kernel_rfl) (by kernel_rfl)
theorem ft189 : FnTab Try.prog E 189 (.ext (pF64bits)) := ext_pF64bits Try.func189 (by kernel_rfl) (by kernel_rfl) (by kernel_rfl) (by kernel_rfl)
theorem ft190 : FnTab Try.prog E 190 (fdAt 190) := fnTab_code (c := c190) (modes := (fdAt 190).ms) (outs := (fdAt 190).os) (results := (fdAt 190).rs) (keep := (fdAt 190).keep) Try.func190 (by kernel_rfl) (by kernel_rfl) (by kernel_rfl)
theorem ft196 : FnTab Try.prog E 196 (.ext (pCopysign)) := DC.signOk
theorem ft197 : FnTab Try.prog E 197 (.ext (pIntegral .zero)) := ext_pIntegral_zero Try.func197 (by kernel_rfl) (by kernel_rfl) (by kernel_rfl) (by kernel_rfl)
theorem ft198 : FnTab Try.prog E 198 (fdAt 198) := fnTab_code (c := c198) (modes := (fdAt 198).ms) (outs := (fdAt 198).os) (results := (fdAt 198).rs) (keep := (fdAt 198).keep) Try.func198 (by kernel_rfl) (by kernel_rfl) (by kernel_rfl)
theorem allFns : AllFns Try.prog E fnTab := .cons ft12 (.cons ft28 (.cons ft29 (.cons ft69 (.cons ft70 (.cons ft71 (.cons ft72 (.cons ft73 (.cons ft74 (.cons ft75 (.cons ft76 (.cons ft90 (.cons ft91 (.cons ft93 (.cons ft97 (.cons ft127 (.cons ft136 (.cons ft144 (.cons ft145 (.cons ft146 (.cons ft147 (.cons ft148 (.cons ft149 (.cons ft150 (.cons ft151 (.cons ft158 (.cons ft163 (.cons ft178 (.cons ft179 (.cons ft180 (.cons ft181 (.cons ft189 (.cons ft190 (.cons ft196 (.cons ft197 (.cons ft198 (.nil))))))))))))))))))))))))))))))))))))
theorem fnOk : ∀ f fd, E.fn f = some fd → FnTab Try.prog E f fd := fnTab_of (l := fnTab) (fun _ => rfl) allFns
end Go.Proofs.Ytjkhhalnlodinaa.D
end
section
/- Plain functions for the law's Go functions, each tied to the reading by the kernel (printed by a program of this workplace). -/
namespace Go.Proofs.Ytjkhhalnlodinaa.D
open Go Go.Desk
set_option linter.unusedVariables false
noncomputable def x178.w : FnW E := xF64frombits.w 178 (by kernel_rfl)

noncomputable def x179.w : FnW E := xAbs.w 179 (by kernel_rfl)

noncomputable def x197.w : FnW E := xIntegral_zero.w 197 (by kernel_rfl)

noncomputable def x189.w : FnW E := xF64bits.w 189 (by kernel_rfl)

noncomputable def x196.w : FnW E := xCopysign.w 196 (by kernel_rfl)

noncomputable def x181.w : FnW E := xSqrt.w 181 (by kernel_rfl)

def f28_l_b10Long : Nat → Nat → List T → Nat → List T → Option (Bool)
  | 0, _, _, _, _ => none
  | n + 1, n1, l2, n3, l4 =>
    br (decide (((n1 : Nat) : Int) > (1048576 : Int))) (
     some true) (
     some (decide (((n3 : Nat) : Int) > (1048576 : Int))))
def sg_ll : Sig (Nat × List T × Nat × List T) where
  pk := fun v => [.lst v.1 v.2.1, .lst v.2.2.1 v.2.2.2]
  up := fun ls => match ls with
    | [.lst a0 a1, .lst a2 a3] => some (a0, a1, a2, a3)
    | _ => none
  ok := by
    intro ls v h
    split at h
    · cases h; rfl
    · cases h

def sg_b : Sig (Bool) where
  pk := fun v => [.bool v]
  up := fun ls => match ls with
    | [.bool a0] => some a0
    | _ => none
  ok := by
    intro ls v h
    split at h
    · cases h; rfl
    · cases h

def f28_l_b10Long.P : List Arg := [⟨.val, ⟨false, [.sl .shr [.leaf]], [.lst 0 []]⟩⟩, ⟨.val, ⟨false, [.sl .shr [.leaf]], [.lst 0 []]⟩⟩]
def f28_l_b10Long.A : RAlt (Bool) := .one ⟨[⟨false, [.leaf], [.bool false]⟩], [none, none]⟩ sg_b
def f28_l_b10Long.F (n : Nat) (v : Nat × List T × Nat × List T) := f28_l_b10Long n v.1 v.2.1 v.2.2.1 v.2.2.2
noncomputable def f28_l_b10Long.O (n : Nat) : Orc := orcOf (E := E) [] [] n
theorem f28_l_b10Long.ok : ∀ n v x, f28_l_b10Long.F n v = some x → evalFn E n 28 (flAs f28_l_b10Long.P (sg_ll.pk v)) = some (f28_l_b10Long.A.enc x) :=
  fn_pure (modes := (fdAt 28).ms) (outs := (fdAt 28).os) (results := (fdAt 28).rs) f28_l_b10Long.O (c := c28) (keep := keepAt 28) (by kernel_rfl) (fun n => orcOf_cf _ _ n) (fun n => lpOk_of (bs := []) (by kernel_rfl) .nil) (fun _ => rfl) (fun _ _ => by kernel_rfl)
noncomputable def f28_l_b10Long.w : FnW E := fnW 28 f28_l_b10Long.P sg_ll f28_l_b10Long.A f28_l_b10Long.F f28_l_b10Long.ok

def f90_s_l00From : Nat → Nat → List T → Option (Nat × List T × Int × Int)
  | 0, _, _ => none
  | n + 1, n1, l2 =>
    some (n1, l2, (0 : Int), (0 : Int))
def sg_l : Sig (Nat × List T) where
  pk := fun v => [.lst v.1 v.2]
  up := fun ls => match ls with
    | [.lst a0 a1] => some (a0, a1)
    | _ => none
  ok := by
    intro ls v h
    split at h
    · cases h; rfl
    · cases h

def sg_lii : Sig (Nat × List T × Int × Int) where
  pk := fun v => [.lst v.1 v.2.1, .int v.2.2.1, .int v.2.2.2]
  up := fun ls => match ls with
    | [.lst a0 a1, .int a2, .int a3] => some (a0, a1, a2, a3)
    | _ => none
  ok := by
    intro ls v h
    split at h
    · cases h; rfl
    · cases h

def f90_s_l00From.P : List Arg := [⟨.val, ⟨false, [.sl .shr [.leaf]], [.lst 0 []]⟩⟩]
def f90_s_l00From.A : RAlt (Nat × List T × Int × Int) := .one ⟨[⟨false, [.rf .own [.sl .shr [.leaf], .leaf, .leaf]], [.ref [.lst 0 [], .int .i64 0, .int .u64 0]]⟩], [none]⟩ sg_lii
def f90_s_l00From.F (n : Nat) (v : Nat × List T) := f90_s_l00From n v.1 v.2
noncomputable def f90_s_l00From.O (n : Nat) : Orc := orcOf (E := E) [] [] n
theorem f90_s_l00From.ok : ∀ n v x, f90_s_l00From.F n v = some x → evalFn E n 90 (flAs f90_s_l00From.P (sg_l.pk v)) = some (f90_s_l00From.A.enc x) :=
  fn_pure (modes := (fdAt 90).ms) (outs := (fdAt 90).os) (results := (fdAt 90).rs) f90_s_l00From.O (c := c90) (keep := keepAt 90) (by kernel_rfl) (fun n => orcOf_cf _ _ n) (fun n => lpOk_of (bs := []) (by kernel_rfl) .nil) (fun _ => rfl) (fun _ _ => by kernel_rfl)
noncomputable def f90_s_l00From.w : FnW E := fnW 90 f90_s_l00From.P sg_l f90_s_l00From.A f90_s_l00From.F f90_s_l00From.ok

def f163_s_l00Srcnext : Nat → Nat → List T → Int → Int → Option (Int × Nat × List T × Int × Int)
  | 0, _, _, _, _ => none
  | n + 1, n1, l2, i3, i4 =>
    br (decide (i3 < ((n1 : Nat) : Int))) (
     gd ((decide (((0 : Int) ≤ i3) ∧ (i3 < ((n1 : Nat) : Int)))) && (okAt [(CK.int IntKind.u8)] l2 (Int.toNat i3))) (
     let i5 : Int := (IntKind.i64.wrap (iAt l2 (Int.toNat i3)))
     let i6 : Int := (IntKind.i64.wrap (i3 + (1 : Int)))
     let i7 : Int := (IntKind.u64.wrap ((IntKind.u64.wrap ((IntKind.u64.wrap (i4 * (6364136223846793005 : Int))) + (IntKind.u64.wrap i5))) + (1442695040888963407 : Int)))
     br (decide (i6 ≤ ((n1 : Nat) : Int))) (
      some (i5, n1, l2, i6, i7)) (
      some ((IntKind.i64.wrap (intBits BinOp.and IntKind.u64 (Int.fdiv i7 (1099511627776 : Int)) (255 : Int))), n1, l2, i6, i7)))) (
     let i8 : Int := (IntKind.i64.wrap (i3 + (1 : Int)))
     let i9 : Int := (IntKind.u64.wrap ((IntKind.u64.wrap ((IntKind.u64.wrap (i4 * (6364136223846793005 : Int))) + (0 : Int))) + (1442695040888963407 : Int)))
     br (decide (i8 ≤ ((n1 : Nat) : Int))) (
      some ((0 : Int), n1, l2, i8, i9)) (
      some ((IntKind.i64.wrap (intBits BinOp.and IntKind.u64 (Int.fdiv i9 (1099511627776 : Int)) (255 : Int))), n1, l2, i8, i9)))
def sg_ilii : Sig (Int × Nat × List T × Int × Int) where
  pk := fun v => [.int v.1, .lst v.2.1 v.2.2.1, .int v.2.2.2.1, .int v.2.2.2.2]
  up := fun ls => match ls with
    | [.int a0, .lst a1 a2, .int a3, .int a4] => some (a0, a1, a2, a3, a4)
    | _ => none
  ok := by
    intro ls v h
    split at h
    · cases h; rfl
    · cases h

def f163_s_l00Srcnext.P : List Arg := [⟨.iop, ⟨false, [.rf .own [.sl .shr [.leaf], .leaf, .leaf]], [.ref [.lst 0 [], .int .i64 0, .int .u64 0]]⟩⟩]
def f163_s_l00Srcnext.A : RAlt (Int × Nat × List T × Int × Int) := .one ⟨[⟨false, [.leaf], [.int .i64 0]⟩], [some ⟨false, [.rf .own [.sl .shr [.leaf], .leaf, .leaf]], [.ref [.lst 0 [], .int .i64 0, .int .u64 0]]⟩]⟩ sg_ilii
def f163_s_l00Srcnext.F (n : Nat) (v : Nat × List T × Int × Int) := f163_s_l00Srcnext n v.1 v.2.1 v.2.2.1 v.2.2.2
noncomputable def f163_s_l00Srcnext.O (n : Nat) : Orc := orcOf (E := E) [] [] n
theorem f163_s_l00Srcnext.ok : ∀ n v x, f163_s_l00Srcnext.F n v = some x → evalFn E n 163 (flAs f163_s_l00Srcnext.P (sg_lii.pk v)) = some (f163_s_l00Srcnext.A.enc x) :=
  fn_pure (modes := (fdAt 163).ms) (outs := (fdAt 163).os) (results := (fdAt 163).rs) f163_s_l00Srcnext.O (c := c163) (keep := keepAt 163) (by kernel_rfl) (fun n => orcOf_cf _ _ n) (fun n => lpOk_of (bs := []) (by kernel_rfl) .nil) (fun _ => rfl) (fun _ _ => by kernel_rfl)
noncomputable def f163_s_l00Srcnext.w : FnW E := fnW 163 f163_s_l00Srcnext.P sg_lii f163_s_l00Srcnext.A f163_s_l00Srcnext.F f163_s_l00Srcnext.ok

def f97_s_l00Srcpick : Nat → Nat → List T → Int → Int → Int → Option (Int × Nat × List T × Int × Int)
  | 0, _, _, _, _, _ => none
  | n + 1, n1, l2, i3, i4, i5 =>
    br (decide (i5 ≤ (1 : Int))) (
     some ((0 : Int), n1, l2, i3, i4)) (
     bd (f163_s_l00Srcnext n n1 l2 i3 i4) fun r6 =>
     let i7 : Int := r6.1
     let n8 : Nat := r6.2.1
     let l9 : List T := r6.2.2.1
     let i10 : Int := r6.2.2.2.1
     let i11 : Int := r6.2.2.2.2
     br (decide (i5 > (200 : Int))) (
      bd (f163_s_l00Srcnext n n8 l9 i10 i11) fun r12 =>
      let i13 : Int := r12.1
      let n14 : Nat := r12.2.1
      let l15 : List T := r12.2.2.1
      let i16 : Int := r12.2.2.2.1
      let i17 : Int := r12.2.2.2.2
      let i18 : Int := (IntKind.i64.wrap ((IntKind.i64.wrap (i7 * (256 : Int))) + i13))
      gd (!(decide (i5 = (0 : Int)))) (
      some ((Int.tmod i18 i5), n14, l15, i16, i17))) (
      gd (!(decide (i5 = (0 : Int)))) (
      some ((Int.tmod i7 i5), n8, l9, i10, i11))))
def sg_liii : Sig (Nat × List T × Int × Int × Int) where
  pk := fun v => [.lst v.1 v.2.1, .int v.2.2.1, .int v.2.2.2.1, .int v.2.2.2.2]
  up := fun ls => match ls with
    | [.lst a0 a1, .int a2, .int a3, .int a4] => some (a0, a1, a2, a3, a4)
    | _ => none
  ok := by
    intro ls v h
    split at h
    · cases h; rfl
    · cases h

def f97_s_l00Srcpick.P : List Arg := [⟨.iop, ⟨false, [.rf .own [.sl .shr [.leaf], .leaf, .leaf]], [.ref [.lst 0 [], .int .i64 0, .int .u64 0]]⟩⟩, ⟨.val, ⟨false, [.leaf], [.int .i64 0]⟩⟩]
def f97_s_l00Srcpick.A : RAlt (Int × Nat × List T × Int × Int) := .one ⟨[⟨false, [.leaf], [.int .i64 0]⟩], [some ⟨false, [.rf .own [.sl .shr [.leaf], .leaf, .leaf]], [.ref [.lst 0 [], .int .i64 0, .int .u64 0]]⟩, none]⟩ sg_ilii
def f97_s_l00Srcpick.F (n : Nat) (v : Nat × List T × Int × Int × Int) := f97_s_l00Srcpick n v.1 v.2.1 v.2.2.1 v.2.2.2.1 v.2.2.2.2
noncomputable def f97_s_l00Srcpick.O (n : Nat) : Orc := orcOf (E := E) [f163_s_l00Srcnext.w] [] n
theorem f97_s_l00Srcpick.ok : ∀ n v x, f97_s_l00Srcpick.F n v = some x → evalFn E n 97 (flAs f97_s_l00Srcpick.P (sg_liii.pk v)) = some (f97_s_l00Srcpick.A.enc x) :=
  fn_pure (modes := (fdAt 97).ms) (outs := (fdAt 97).os) (results := (fdAt 97).rs) f97_s_l00Srcpick.O (c := c97) (keep := keepAt 97) (by kernel_rfl) (fun n => orcOf_cf _ _ n) (fun n => lpOk_of (bs := []) (by kernel_rfl) .nil) (fun _ => rfl) (fun _ _ => by kernel_rfl)
noncomputable def f97_s_l00Srcpick.w : FnW E := fnW 97 f97_s_l00Srcpick.P sg_liii f97_s_l00Srcpick.A f97_s_l00Srcpick.F f97_s_l00Srcpick.ok

def f158_s_l00Srcone : Nat → Nat → List T → Int → Int → Int → Option (Bool × Nat × List T × Int × Int)
  | 0, _, _, _, _, _ => none
  | n + 1, n1, l2, i3, i4, i5 =>
    bd (f97_s_l00Srcpick n n1 l2 i3 i4 i5) fun r6 =>
    let i7 : Int := r6.1
    let n8 : Nat := r6.2.1
    let l9 : List T := r6.2.2.1
    let i10 : Int := r6.2.2.2.1
    let i11 : Int := r6.2.2.2.2
    some ((i7 == (0 : Int)), n8, l9, i10, i11)
def sg_blii : Sig (Bool × Nat × List T × Int × Int) where
  pk := fun v => [.bool v.1, .lst v.2.1 v.2.2.1, .int v.2.2.2.1, .int v.2.2.2.2]
  up := fun ls => match ls with
    | [.bool a0, .lst a1 a2, .int a3, .int a4] => some (a0, a1, a2, a3, a4)
    | _ => none
  ok := by
    intro ls v h
    split at h
    · cases h; rfl
    · cases h

def f158_s_l00Srcone.P : List Arg := [⟨.iop, ⟨false, [.rf .own [.sl .shr [.leaf], .leaf, .leaf]], [.ref [.lst 0 [], .int .i64 0, .int .u64 0]]⟩⟩, ⟨.val, ⟨false, [.leaf], [.int .i64 0]⟩⟩]
def f158_s_l00Srcone.A : RAlt (Bool × Nat × List T × Int × Int) := .one ⟨[⟨false, [.leaf], [.bool false]⟩], [some ⟨false, [.rf .own [.sl .shr [.leaf], .leaf, .leaf]], [.ref [.lst 0 [], .int .i64 0, .int .u64 0]]⟩, none]⟩ sg_blii
def f158_s_l00Srcone.F (n : Nat) (v : Nat × List T × Int × Int × Int) := f158_s_l00Srcone n v.1 v.2.1 v.2.2.1 v.2.2.2.1 v.2.2.2.2
noncomputable def f158_s_l00Srcone.O (n : Nat) : Orc := orcOf (E := E) [f97_s_l00Srcpick.w] [] n
theorem f158_s_l00Srcone.ok : ∀ n v x, f158_s_l00Srcone.F n v = some x → evalFn E n 158 (flAs f158_s_l00Srcone.P (sg_liii.pk v)) = some (f158_s_l00Srcone.A.enc x) :=
  fn_pure (modes := (fdAt 158).ms) (outs := (fdAt 158).os) (results := (fdAt 158).rs) f158_s_l00Srcone.O (c := c158) (keep := keepAt 158) (by kernel_rfl) (fun n => orcOf_cf _ _ n) (fun n => lpOk_of (bs := []) (by kernel_rfl) .nil) (fun _ => rfl) (fun _ _ => by kernel_rfl)
noncomputable def f158_s_l00Srcone.w : FnW E := fnW 158 f158_s_l00Srcone.P sg_liii f158_s_l00Srcone.A f158_s_l00Srcone.F f158_s_l00Srcone.ok

def f91_s_l01DrawPlain : Nat → Nat → List T → Int → Int → Option (Nat × Nat × List T × Int × Int)
  | 0, _, _, _, _ => none
  | n + 1, n1, l2, i3, i4 =>
    bd (f97_s_l00Srcpick n n1 l2 i3 i4 (129 : Int)) fun r5 =>
    let i6 : Int := r5.1
    let n7 : Nat := r5.2.1
    let l8 : List T := r5.2.2.1
    let i9 : Int := r5.2.2.2.1
    let i10 : Int := r5.2.2.2.2
    let i11 : Int := (IntKind.i64.wrap (i6 - (64 : Int)))
    bd (f158_s_l00Srcone n n7 l8 i9 i10 (4 : Int)) fun r12 =>
    let b13 : Bool := r12.1
    let n14 : Nat := r12.2.1
    let l15 : List T := r12.2.2.1
    let i16 : Int := r12.2.2.2.1
    let i17 : Int := r12.2.2.2.2
    br b13 (
     some ((fdiv FloatKind.f32 (FloatKind.nearest FloatKind.f32 i11) 1088421888), n14, l15, i16, i17)) (
     some ((fdiv FloatKind.f32 (FloatKind.nearest FloatKind.f32 i11) 1098907648), n14, l15, i16, i17))
def sg_flii : Sig (Nat × Nat × List T × Int × Int) where
  pk := fun v => [.flt v.1, .lst v.2.1 v.2.2.1, .int v.2.2.2.1, .int v.2.2.2.2]
  up := fun ls => match ls with
    | [.flt a0, .lst a1 a2, .int a3, .int a4] => some (a0, a1, a2, a3, a4)
    | _ => none
  ok := by
    intro ls v h
    split at h
    · cases h; rfl
    · cases h

def f91_s_l01DrawPlain.P : List Arg := [⟨.iop, ⟨false, [.rf .own [.sl .shr [.leaf], .leaf, .leaf]], [.ref [.lst 0 [], .int .i64 0, .int .u64 0]]⟩⟩]
def f91_s_l01DrawPlain.A : RAlt (Nat × Nat × List T × Int × Int) := .one ⟨[⟨false, [.leaf], [.flt .f32 0]⟩], [some ⟨false, [.rf .own [.sl .shr [.leaf], .leaf, .leaf]], [.ref [.lst 0 [], .int .i64 0, .int .u64 0]]⟩]⟩ sg_flii
def f91_s_l01DrawPlain.F (n : Nat) (v : Nat × List T × Int × Int) := f91_s_l01DrawPlain n v.1 v.2.1 v.2.2.1 v.2.2.2
noncomputable def f91_s_l01DrawPlain.O (n : Nat) : Orc := orcOf (E := E) [f97_s_l00Srcpick.w, f158_s_l00Srcone.w] [] n
theorem f91_s_l01DrawPlain.ok : ∀ n v x, f91_s_l01DrawPlain.F n v = some x → evalFn E n 91 (flAs f91_s_l01DrawPlain.P (sg_lii.pk v)) = some (f91_s_l01DrawPlain.A.enc x) :=
  fn_pure (modes := (fdAt 91).ms) (outs := (fdAt 91).os) (results := (fdAt 91).rs) f91_s_l01DrawPlain.O (c := c91) (keep := keepAt 91) (by kernel_rfl) (fun n => orcOf_cf _ _ n) (fun n => lpOk_of (bs := []) (by kernel_rfl) .nil) (fun _ => rfl) (fun _ _ => by kernel_rfl)
noncomputable def f91_s_l01DrawPlain.w : FnW E := fnW 91 f91_s_l01DrawPlain.P sg_lii f91_s_l01DrawPlain.A f91_s_l01DrawPlain.F f91_s_l01DrawPlain.ok

def f69_s_B10Plain : Nat → Nat → List T → Option (Nat)
  | 0, _, _ => none
  | n + 1, n1, l2 =>
    bd (f90_s_l00From n n1 l2) fun r3 =>
    let n4 : Nat := r3.1
    let l5 : List T := r3.2.1
    let i6 : Int := r3.2.2.1
    let i7 : Int := r3.2.2.2
    bd (f91_s_l01DrawPlain n n4 l5 i6 i7) fun r8 =>
    let x9 : Nat := r8.1
    let n10 : Nat := r8.2.1
    let l11 : List T := r8.2.2.1
    let i12 : Int := r8.2.2.2.1
    let i13 : Int := r8.2.2.2.2
    some x9
def sg_f : Sig (Nat) where
  pk := fun v => [.flt v]
  up := fun ls => match ls with
    | [.flt a0] => some a0
    | _ => none
  ok := by
    intro ls v h
    split at h
    · cases h; rfl
    · cases h

def f69_s_B10Plain.P : List Arg := [⟨.val, ⟨false, [.sl .shr [.leaf]], [.lst 0 []]⟩⟩]
def f69_s_B10Plain.A : RAlt (Nat) := .one ⟨[⟨false, [.leaf], [.flt .f32 0]⟩], [none]⟩ sg_f
def f69_s_B10Plain.F (n : Nat) (v : Nat × List T) := f69_s_B10Plain n v.1 v.2
noncomputable def f69_s_B10Plain.O (n : Nat) : Orc := orcOf (E := E) [f90_s_l00From.w, f91_s_l01DrawPlain.w] [] n
theorem f69_s_B10Plain.ok : ∀ n v x, f69_s_B10Plain.F n v = some x → evalFn E n 69 (flAs f69_s_B10Plain.P (sg_l.pk v)) = some (f69_s_B10Plain.A.enc x) :=
  fn_pure (modes := (fdAt 69).ms) (outs := (fdAt 69).os) (results := (fdAt 69).rs) f69_s_B10Plain.O (c := c69) (keep := keepAt 69) (by kernel_rfl) (fun n => orcOf_cf _ _ n) (fun n => lpOk_of (bs := []) (by kernel_rfl) .nil) (fun _ => rfl) (fun _ _ => by kernel_rfl)
noncomputable def f69_s_B10Plain.w : FnW E := fnW 69 f69_s_B10Plain.P sg_l f69_s_B10Plain.A f69_s_B10Plain.F f69_s_B10Plain.ok

def f127_i_isFinite : Nat → Nat → Option (Bool)
  | 0, _ => none
  | n + 1, x1 =>
    some (feq FloatKind.f64 (fsub FloatKind.f64 x1 x1) 0)
def f127_i_isFinite.P : List Arg := [⟨.val, ⟨false, [.leaf], [.flt .f64 0]⟩⟩]
def f127_i_isFinite.A : RAlt (Bool) := .one ⟨[⟨false, [.leaf], [.bool false]⟩], [none]⟩ sg_b
def f127_i_isFinite.F (n : Nat) (v : Nat) := f127_i_isFinite n v
noncomputable def f127_i_isFinite.O (n : Nat) : Orc := orcOf (E := E) [] [] n
theorem f127_i_isFinite.ok : ∀ n v x, f127_i_isFinite.F n v = some x → evalFn E n 127 (flAs f127_i_isFinite.P (sg_f.pk v)) = some (f127_i_isFinite.A.enc x) :=
  fn_pure (modes := (fdAt 127).ms) (outs := (fdAt 127).os) (results := (fdAt 127).rs) f127_i_isFinite.O (c := c127) (keep := keepAt 127) (by kernel_rfl) (fun n => orcOf_cf _ _ n) (fun n => lpOk_of (bs := []) (by kernel_rfl) .nil) (fun _ => rfl) (fun _ _ => by kernel_rfl)
noncomputable def f127_i_isFinite.w : FnW E := fnW 127 f127_i_isFinite.P sg_f f127_i_isFinite.A f127_i_isFinite.F f127_i_isFinite.ok

def f144_mathNaN : Nat → Option (Nat)
  | 0 => none
  | n + 1 =>
    bd (xF64frombits n (9221120237041090561 : Int)) fun r1 =>
    let x2 : Nat := r1
    some x2
def sg : Sig (Unit) where
  pk := fun v => []
  up := fun ls => match ls with
    | [] => some ()
    | _ => none
  ok := by
    intro ls v h
    split at h
    · cases h; rfl
    · cases h

def f144_mathNaN.P : List Arg := []
def f144_mathNaN.A : RAlt (Nat) := .one ⟨[⟨false, [.leaf], [.flt .f64 0]⟩], []⟩ sg_f
def f144_mathNaN.F (n : Nat) (v : Unit) := f144_mathNaN n
noncomputable def f144_mathNaN.O (n : Nat) : Orc := orcOf (E := E) [x178.w] [] n
theorem f144_mathNaN.ok : ∀ n v x, f144_mathNaN.F n v = some x → evalFn E n 144 (flAs f144_mathNaN.P (sg.pk v)) = some (f144_mathNaN.A.enc x) :=
  fn_pure (modes := (fdAt 144).ms) (outs := (fdAt 144).os) (results := (fdAt 144).rs) f144_mathNaN.O (c := c144) (keep := keepAt 144) (by kernel_rfl) (fun n => orcOf_cf _ _ n) (fun n => lpOk_of (bs := []) (by kernel_rfl) .nil) (fun _ => rfl) (fun _ _ => by kernel_rfl)
noncomputable def f144_mathNaN.w : FnW E := fnW 144 f144_mathNaN.P sg f144_mathNaN.A f144_mathNaN.F f144_mathNaN.ok

def f145_i_isFar : Nat → Nat → Option (Bool)
  | 0, _ => none
  | n + 1, x1 =>
    bd (xAbs n x1) fun r2 =>
    let x3 : Nat := r2
    some (fge FloatKind.f64 x3 4841369599423283200)
def f145_i_isFar.P : List Arg := [⟨.val, ⟨false, [.leaf], [.flt .f64 0]⟩⟩]
def f145_i_isFar.A : RAlt (Bool) := .one ⟨[⟨false, [.leaf], [.bool false]⟩], [none]⟩ sg_b
def f145_i_isFar.F (n : Nat) (v : Nat) := f145_i_isFar n v
noncomputable def f145_i_isFar.O (n : Nat) : Orc := orcOf (E := E) [x179.w] [] n
theorem f145_i_isFar.ok : ∀ n v x, f145_i_isFar.F n v = some x → evalFn E n 145 (flAs f145_i_isFar.P (sg_f.pk v)) = some (f145_i_isFar.A.enc x) :=
  fn_pure (modes := (fdAt 145).ms) (outs := (fdAt 145).os) (results := (fdAt 145).rs) f145_i_isFar.O (c := c145) (keep := keepAt 145) (by kernel_rfl) (fun n => orcOf_cf _ _ n) (fun n => lpOk_of (bs := []) (by kernel_rfl) .nil) (fun _ => rfl) (fun _ _ => by kernel_rfl)
noncomputable def f145_i_isFar.w : FnW E := fnW 145 f145_i_isFar.P sg_f f145_i_isFar.A f145_i_isFar.F f145_i_isFar.ok

def f190_mathTrunc : Nat → Nat → Option (Nat)
  | 0, _ => none
  | n + 1, x1 =>
    bd (xIntegral_zero n x1) fun r2 =>
    let x3 : Nat := r2
    some x3
def f190_mathTrunc.P : List Arg := [⟨.val, ⟨false, [.leaf], [.flt .f64 0]⟩⟩]
def f190_mathTrunc.A : RAlt (Nat) := .one ⟨[⟨false, [.leaf], [.flt .f64 0]⟩], [none]⟩ sg_f
def f190_mathTrunc.F (n : Nat) (v : Nat) := f190_mathTrunc n v
noncomputable def f190_mathTrunc.O (n : Nat) : Orc := orcOf (E := E) [x197.w] [] n
theorem f190_mathTrunc.ok : ∀ n v x, f190_mathTrunc.F n v = some x → evalFn E n 190 (flAs f190_mathTrunc.P (sg_f.pk v)) = some (f190_mathTrunc.A.enc x) :=
  fn_pure (modes := (fdAt 190).ms) (outs := (fdAt 190).os) (results := (fdAt 190).rs) f190_mathTrunc.O (c := c190) (keep := keepAt 190) (by kernel_rfl) (fun n => orcOf_cf _ _ n) (fun n => lpOk_of (bs := []) (by kernel_rfl) .nil) (fun _ => rfl) (fun _ _ => by kernel_rfl)
noncomputable def f190_mathTrunc.w : FnW E := fnW 190 f190_mathTrunc.P sg_f f190_mathTrunc.A f190_mathTrunc.F f190_mathTrunc.ok

def f180_i_rest : Nat → Nat → Option (Nat)
  | 0, _ => none
  | n + 1, x1 =>
    bd (f190_mathTrunc n x1) fun r2 =>
    let x3 : Nat := r2
    br (feq FloatKind.f64 x3 0) (
     let x4 : Nat := (fsub FloatKind.f64 x1 0)
     br (flt FloatKind.f64 x4 0) (
      let x5 : Nat := (fadd FloatKind.f64 x4 4607182418800017408)
      some x5) (
      some x4)) (
     let x6 : Nat := (fsub FloatKind.f64 x1 x3)
     br (flt FloatKind.f64 x6 0) (
      let x7 : Nat := (fadd FloatKind.f64 x6 4607182418800017408)
      some x7) (
      some x6))
def f180_i_rest.P : List Arg := [⟨.val, ⟨false, [.leaf], [.flt .f64 0]⟩⟩]
def f180_i_rest.A : RAlt (Nat) := .one ⟨[⟨false, [.leaf], [.flt .f64 0]⟩], [none]⟩ sg_f
def f180_i_rest.F (n : Nat) (v : Nat) := f180_i_rest n v
noncomputable def f180_i_rest.O (n : Nat) : Orc := orcOf (E := E) [f190_mathTrunc.w] [] n
theorem f180_i_rest.ok : ∀ n v x, f180_i_rest.F n v = some x → evalFn E n 180 (flAs f180_i_rest.P (sg_f.pk v)) = some (f180_i_rest.A.enc x) :=
  fn_pure (modes := (fdAt 180).ms) (outs := (fdAt 180).os) (results := (fdAt 180).rs) f180_i_rest.O (c := c180) (keep := keepAt 180) (by kernel_rfl) (fun n => orcOf_cf _ _ n) (fun n => lpOk_of (bs := []) (by kernel_rfl) .nil) (fun _ => rfl) (fun _ _ => by kernel_rfl)
noncomputable def f180_i_rest.w : FnW E := fnW 180 f180_i_rest.P sg_f f180_i_rest.A f180_i_rest.F f180_i_rest.ok

def f146_i_sine.l0 (n : Nat) : Nat → Bool → Nat → Nat → Nat → Nat → Option (Bool × Nat × Nat)
  | 0, _, _, _, _, _ => none
  | m + 1, b1, x2, x3, x4, x5 =>
    br (fge FloatKind.f64 x5 4607182418800017408) (
     let x6 : Nat := (fsub FloatKind.f64 4607182418800017408 (fdiv FloatKind.f64 (fmul FloatKind.f64 x3 x4) (fmul FloatKind.f64 (fmul FloatKind.f64 4611686018427387904 x5) (fadd FloatKind.f64 (fmul FloatKind.f64 4611686018427387904 x5) 4607182418800017408))))
     f146_i_sine.l0 n m b1 x2 x3 x6 (fsub FloatKind.f64 x5 4607182418800017408)) (
     some (b1, x2, x4))
def f146_i_sine : Nat → Nat → Option (Nat)
  | 0, _ => none
  | n + 1, x1 =>
    bd (f180_i_rest n x1) fun r2 =>
    let x3 : Nat := r2
    let b4 : Bool := (fge FloatKind.f64 x3 4602678819172646912)
    br b4 (
     let x5 : Nat := (fsub FloatKind.f64 x3 4602678819172646912)
     br (fgt FloatKind.f64 x5 4598175219545276416) (
      let x6 : Nat := (fsub FloatKind.f64 4602678819172646912 x5)
      let x7 : Nat := (fmul FloatKind.f64 x6 4618760256179416344)
      let x8 : Nat := (fmul FloatKind.f64 x7 x7)
      bd (f146_i_sine.l0 n n b4 x7 x8 4607182418800017408 4620693217682128896) fun r9 =>
      let b10 : Bool := r9.1
      let x11 : Nat := r9.2.1
      let x12 : Nat := r9.2.2
      br b10 (
       some (negF FloatKind.f64 (fmul FloatKind.f64 x11 x12))) (
       some (fmul FloatKind.f64 x11 x12))) (
      let x13 : Nat := (fmul FloatKind.f64 x5 4618760256179416344)
      let x14 : Nat := (fmul FloatKind.f64 x13 x13)
      bd (f146_i_sine.l0 n n b4 x13 x14 4607182418800017408 4620693217682128896) fun r15 =>
      let b16 : Bool := r15.1
      let x17 : Nat := r15.2.1
      let x18 : Nat := r15.2.2
      br b16 (
       some (negF FloatKind.f64 (fmul FloatKind.f64 x17 x18))) (
       some (fmul FloatKind.f64 x17 x18)))) (
     br (fgt FloatKind.f64 x3 4598175219545276416) (
      let x19 : Nat := (fsub FloatKind.f64 4602678819172646912 x3)
      let x20 : Nat := (fmul FloatKind.f64 x19 4618760256179416344)
      let x21 : Nat := (fmul FloatKind.f64 x20 x20)
      bd (f146_i_sine.l0 n n b4 x20 x21 4607182418800017408 4620693217682128896) fun r22 =>
      let b23 : Bool := r22.1
      let x24 : Nat := r22.2.1
      let x25 : Nat := r22.2.2
      br b23 (
       some (negF FloatKind.f64 (fmul FloatKind.f64 x24 x25))) (
       some (fmul FloatKind.f64 x24 x25))) (
      let x26 : Nat := (fmul FloatKind.f64 x3 4618760256179416344)
      let x27 : Nat := (fmul FloatKind.f64 x26 x26)
      bd (f146_i_sine.l0 n n b4 x26 x27 4607182418800017408 4620693217682128896) fun r28 =>
      let b29 : Bool := r28.1
      let x30 : Nat := r28.2.1
      let x31 : Nat := r28.2.2
      br b29 (
       some (negF FloatKind.f64 (fmul FloatKind.f64 x30 x31))) (
       some (fmul FloatKind.f64 x30 x31))))
def sg_bffff : Sig (Bool × Nat × Nat × Nat × Nat) where
  pk := fun v => [.bool v.1, .flt v.2.1, .flt v.2.2.1, .flt v.2.2.2.1, .flt v.2.2.2.2]
  up := fun ls => match ls with
    | [.bool a0, .flt a1, .flt a2, .flt a3, .flt a4] => some (a0, a1, a2, a3, a4)
    | _ => none
  ok := by
    intro ls v h
    split at h
    · cases h; rfl
    · cases h

def sg_bff : Sig (Bool × Nat × Nat) where
  pk := fun v => [.bool v.1, .flt v.2.1, .flt v.2.2]
  up := fun ls => match ls with
    | [.bool a0, .flt a1, .flt a2] => some (a0, a1, a2)
    | _ => none
  ok := by
    intro ls v h
    split at h
    · cases h; rfl
    · cases h

def f146_i_sine.l0.P : AS := ⟨[(4, .val false [.leaf] [.bool false] [] 0), (5, .val false [.leaf] [.flt .f64 0] [] 0), (6, .val false [.leaf] [.flt .f64 0] [] 0), (7, .val false [.leaf] [.flt .f64 0] [] 0), (8, .val false [.leaf] [.flt .f64 0] [] 0)], 0⟩
def f146_i_sine.l0.A : Alt (Bool × Nat × Nat) := .one (.exit 0) ⟨[(4, .val false [.leaf] [.bool false] [] 0), (5, .val false [.leaf] [.flt .f64 0] [] 0), (7, .val false [.leaf] [.flt .f64 0] [] 0)], 0⟩ sg_bff
def f146_i_sine.l0.F (n m : Nat) (v : Bool × Nat × Nat × Nat × Nat) := f146_i_sine.l0 n m v.1 v.2.1 v.2.2.1 v.2.2.2.1 v.2.2.2.2
def f146_i_sine.l0.W (n : Nat) : LpW := .of 176 f146_i_sine.l0.P sg_bffff f146_i_sine.l0.A (f146_i_sine.l0.F n n)
def f146_i_sine.P : List Arg := [⟨.val, ⟨false, [.leaf], [.flt .f64 0]⟩⟩]
def f146_i_sine.A : RAlt (Nat) := .one ⟨[⟨false, [.leaf], [.flt .f64 0]⟩], [none]⟩ sg_f
def f146_i_sine.F (n : Nat) (v : Nat) := f146_i_sine n v
noncomputable def f146_i_sine.O (n : Nat) : Orc := orcOf (E := E) [f180_i_rest.w] [f146_i_sine.l0.W n] n
theorem f146_i_sine.l0.ok (n : Nat) : LpOk (f146_i_sine.O n) E (evalFn E n) n (keepAt 146) (.loop (loopAt c146 0)) :=
  lp_pure f146_i_sine.l0.P sg_bffff f146_i_sine.l0.A (f146_i_sine.l0.F n) (orcOf_cf _ _ n) (lpOk_of (bs := []) (by kernel_rfl) .nil) (fun _ => rfl) (fun _ _ => by kernel_rfl) (fun _ _ _ => by kernel_rfl)
theorem f146_i_sine.ok : ∀ n v x, f146_i_sine.F n v = some x → evalFn E n 146 (flAs f146_i_sine.P (sg_f.pk v)) = some (f146_i_sine.A.enc x) :=
  fn_pure (modes := (fdAt 146).ms) (outs := (fdAt 146).os) (results := (fdAt 146).rs) f146_i_sine.O (c := c146) (keep := keepAt 146) (by kernel_rfl) (fun n => orcOf_cf _ _ n) (fun n => lpOk_of (bs := [loopAt c146 0]) (by kernel_rfl) (.cons (f146_i_sine.l0.ok n) .nil)) (fun _ => rfl) (fun _ _ => by kernel_rfl)
noncomputable def f146_i_sine.w : FnW E := fnW 146 f146_i_sine.P sg_f f146_i_sine.A f146_i_sine.F f146_i_sine.ok

def f70_i_SineTurns : Nat → Nat → Option (Nat)
  | 0, _ => none
  | n + 1, x1 =>
    bd ((fltToFlt FloatKind.f32 x1 FloatKind.f64)) fun y2 =>
    bd (f127_i_isFinite n y2) fun r3 =>
    let b4 : Bool := r3
    br (!b4) (
     bd (f144_mathNaN n) fun r5 =>
     let x6 : Nat := r5
     bd ((fltToFlt FloatKind.f64 x6 FloatKind.f32)) fun y7 =>
     some y7) (
     bd (f145_i_isFar n y2) fun r8 =>
     let b9 : Bool := r8
     br b9 (
      some 0) (
      bd (f146_i_sine n y2) fun r10 =>
      let x11 : Nat := r10
      bd ((fltToFlt FloatKind.f64 x11 FloatKind.f32)) fun y12 =>
      some y12))
def f70_i_SineTurns.P : List Arg := [⟨.val, ⟨false, [.leaf], [.flt .f32 0]⟩⟩]
def f70_i_SineTurns.A : RAlt (Nat) := .one ⟨[⟨false, [.leaf], [.flt .f32 0]⟩], [none]⟩ sg_f
def f70_i_SineTurns.F (n : Nat) (v : Nat) := f70_i_SineTurns n v
noncomputable def f70_i_SineTurns.O (n : Nat) : Orc := orcOf (E := E) [f127_i_isFinite.w, f144_mathNaN.w, f145_i_isFar.w, f146_i_sine.w] [] n
theorem f70_i_SineTurns.ok : ∀ n v x, f70_i_SineTurns.F n v = some x → evalFn E n 70 (flAs f70_i_SineTurns.P (sg_f.pk v)) = some (f70_i_SineTurns.A.enc x) :=
  fn_pure (modes := (fdAt 70).ms) (outs := (fdAt 70).os) (results := (fdAt 70).rs) f70_i_SineTurns.O (c := c70) (keep := keepAt 70) (by kernel_rfl) (fun n => orcOf_cf _ _ n) (fun n => lpOk_of (bs := []) (by kernel_rfl) .nil) (fun _ => rfl) (fun _ _ => by kernel_rfl)
noncomputable def f70_i_SineTurns.w : FnW E := fnW 70 f70_i_SineTurns.P sg_f f70_i_SineTurns.A f70_i_SineTurns.F f70_i_SineTurns.ok

def f71_l_b10Gap : Nat → Nat → Nat → Option (Nat)
  | 0, _, _ => none
  | n + 1, x1, x2 =>
    br (flt FloatKind.f64 x1 x2) (
     some (fsub FloatKind.f64 x2 x1)) (
     some (fsub FloatKind.f64 x1 x2))
def sg_ff : Sig (Nat × Nat) where
  pk := fun v => [.flt v.1, .flt v.2]
  up := fun ls => match ls with
    | [.flt a0, .flt a1] => some (a0, a1)
    | _ => none
  ok := by
    intro ls v h
    split at h
    · cases h; rfl
    · cases h

def f71_l_b10Gap.P : List Arg := [⟨.val, ⟨false, [.leaf], [.flt .f64 0]⟩⟩, ⟨.val, ⟨false, [.leaf], [.flt .f64 0]⟩⟩]
def f71_l_b10Gap.A : RAlt (Nat) := .one ⟨[⟨false, [.leaf], [.flt .f64 0]⟩], [none, none]⟩ sg_f
def f71_l_b10Gap.F (n : Nat) (v : Nat × Nat) := f71_l_b10Gap n v.1 v.2
noncomputable def f71_l_b10Gap.O (n : Nat) : Orc := orcOf (E := E) [] [] n
theorem f71_l_b10Gap.ok : ∀ n v x, f71_l_b10Gap.F n v = some x → evalFn E n 71 (flAs f71_l_b10Gap.P (sg_ff.pk v)) = some (f71_l_b10Gap.A.enc x) :=
  fn_pure (modes := (fdAt 71).ms) (outs := (fdAt 71).os) (results := (fdAt 71).rs) f71_l_b10Gap.O (c := c71) (keep := keepAt 71) (by kernel_rfl) (fun n => orcOf_cf _ _ n) (fun n => lpOk_of (bs := []) (by kernel_rfl) .nil) (fun _ => rfl) (fun _ _ => by kernel_rfl)
noncomputable def f71_l_b10Gap.w : FnW E := fnW 71 f71_l_b10Gap.P sg_ff f71_l_b10Gap.A f71_l_b10Gap.F f71_l_b10Gap.ok

def f29_l_b10At : Nat → Nat → List T → Int → Int → Option (Int)
  | 0, _, _, _, _ => none
  | n + 1, n1, l2, i3, i4 =>
    br (decide (i4 ≤ (1 : Int))) (
     some (0 : Int)) (
     br (decide (i3 < ((n1 : Nat) : Int))) (
      gd ((decide (((0 : Int) ≤ i3) ∧ (i3 < ((n1 : Nat) : Int)))) && (okAt [(CK.int IntKind.u8)] l2 (Int.toNat i3))) (
      gd (!(decide (i4 = (0 : Int)))) (
      some (Int.tmod (IntKind.i64.wrap (iAt l2 (Int.toNat i3))) i4)))) (
      gd (!(decide (i4 = (0 : Int)))) (
      some (Int.tmod (IntKind.i64.wrap ((IntKind.i64.wrap (i3 * (37 : Int))) + (11 : Int))) i4))))
def sg_i : Sig (Int) where
  pk := fun v => [.int v]
  up := fun ls => match ls with
    | [.int a0] => some a0
    | _ => none
  ok := by
    intro ls v h
    split at h
    · cases h; rfl
    · cases h

def f29_l_b10At.P : List Arg := [⟨.val, ⟨false, [.sl .shr [.leaf]], [.lst 0 []]⟩⟩, ⟨.val, ⟨false, [.leaf], [.int .i64 0]⟩⟩, ⟨.val, ⟨false, [.leaf], [.int .i64 0]⟩⟩]
def f29_l_b10At.A : RAlt (Int) := .one ⟨[⟨false, [.leaf], [.int .i64 0]⟩], [none, none, none]⟩ sg_i
def f29_l_b10At.F (n : Nat) (v : Nat × List T × Int × Int) := f29_l_b10At n v.1 v.2.1 v.2.2.1 v.2.2.2
noncomputable def f29_l_b10At.O (n : Nat) : Orc := orcOf (E := E) [] [] n
theorem f29_l_b10At.ok : ∀ n v x, f29_l_b10At.F n v = some x → evalFn E n 29 (flAs f29_l_b10At.P (sg_lii.pk v)) = some (f29_l_b10At.A.enc x) :=
  fn_pure (modes := (fdAt 29).ms) (outs := (fdAt 29).os) (results := (fdAt 29).rs) f29_l_b10At.O (c := c29) (keep := keepAt 29) (by kernel_rfl) (fun n => orcOf_cf _ _ n) (fun n => lpOk_of (bs := []) (by kernel_rfl) .nil) (fun _ => rfl) (fun _ _ => by kernel_rfl)
noncomputable def f29_l_b10At.w : FnW E := fnW 29 f29_l_b10At.P sg_lii f29_l_b10At.A f29_l_b10At.F f29_l_b10At.ok

def f93_i_within : Nat → Int → Int → Int → Option (Bool)
  | 0, _, _, _ => none
  | n + 1, i1, i2, i3 =>
    br (decide (i2 ≤ i1)) (
     some (decide (i1 ≤ i3))) (
     some false)
def sg_iii : Sig (Int × Int × Int) where
  pk := fun v => [.int v.1, .int v.2.1, .int v.2.2]
  up := fun ls => match ls with
    | [.int a0, .int a1, .int a2] => some (a0, a1, a2)
    | _ => none
  ok := by
    intro ls v h
    split at h
    · cases h; rfl
    · cases h

def f93_i_within.P : List Arg := [⟨.val, ⟨false, [.leaf], [.int .i64 0]⟩⟩, ⟨.val, ⟨false, [.leaf], [.int .i64 0]⟩⟩, ⟨.val, ⟨false, [.leaf], [.int .i64 0]⟩⟩]
def f93_i_within.A : RAlt (Bool) := .one ⟨[⟨false, [.leaf], [.bool false]⟩], [none, none, none]⟩ sg_b
def f93_i_within.F (n : Nat) (v : Int × Int × Int) := f93_i_within n v.1 v.2.1 v.2.2
noncomputable def f93_i_within.O (n : Nat) : Orc := orcOf (E := E) [] [] n
theorem f93_i_within.ok : ∀ n v x, f93_i_within.F n v = some x → evalFn E n 93 (flAs f93_i_within.P (sg_iii.pk v)) = some (f93_i_within.A.enc x) :=
  fn_pure (modes := (fdAt 93).ms) (outs := (fdAt 93).os) (results := (fdAt 93).rs) f93_i_within.O (c := c93) (keep := keepAt 93) (by kernel_rfl) (fun n => orcOf_cf _ _ n) (fun n => lpOk_of (bs := []) (by kernel_rfl) .nil) (fun _ => rfl) (fun _ _ => by kernel_rfl)
noncomputable def f93_i_within.w : FnW E := fnW 93 f93_i_within.P sg_iii f93_i_within.A f93_i_within.F f93_i_within.ok

def f147_i_isTenths : Nat → Int → Option (Bool)
  | 0, _ => none
  | n + 1, i1 =>
    bd (f93_i_within n i1 (-2000 : Int) (2000 : Int)) fun r2 =>
    let b3 : Bool := r2
    some b3
def f147_i_isTenths.P : List Arg := [⟨.val, ⟨false, [.leaf], [.int .i64 0]⟩⟩]
def f147_i_isTenths.A : RAlt (Bool) := .one ⟨[⟨false, [.leaf], [.bool false]⟩], [none]⟩ sg_b
def f147_i_isTenths.F (n : Nat) (v : Int) := f147_i_isTenths n v
noncomputable def f147_i_isTenths.O (n : Nat) : Orc := orcOf (E := E) [f93_i_within.w] [] n
theorem f147_i_isTenths.ok : ∀ n v x, f147_i_isTenths.F n v = some x → evalFn E n 147 (flAs f147_i_isTenths.P (sg_i.pk v)) = some (f147_i_isTenths.A.enc x) :=
  fn_pure (modes := (fdAt 147).ms) (outs := (fdAt 147).os) (results := (fdAt 147).rs) f147_i_isTenths.O (c := c147) (keep := keepAt 147) (by kernel_rfl) (fun n => orcOf_cf _ _ n) (fun n => lpOk_of (bs := []) (by kernel_rfl) .nil) (fun _ => rfl) (fun _ _ => by kernel_rfl)
noncomputable def f147_i_isTenths.w : FnW E := fnW 147 f147_i_isTenths.P sg_i f147_i_isTenths.A f147_i_isTenths.F f147_i_isTenths.ok

def f149_mathInf : Nat → Int → Option (Nat)
  | 0, _ => none
  | n + 1, i1 =>
    br (decide (i1 ≥ (0 : Int))) (
     bd (xF64frombits n (9218868437227405312 : Int)) fun r2 =>
     let x3 : Nat := r2
     some x3) (
     bd (xF64frombits n (18442240474082181120 : Int)) fun r4 =>
     let x5 : Nat := r4
     some x5)
def f149_mathInf.P : List Arg := [⟨.val, ⟨false, [.leaf], [.int .i64 0]⟩⟩]
def f149_mathInf.A : RAlt (Nat) := .one ⟨[⟨false, [.leaf], [.flt .f64 0]⟩], [none]⟩ sg_f
def f149_mathInf.F (n : Nat) (v : Int) := f149_mathInf n v
noncomputable def f149_mathInf.O (n : Nat) : Orc := orcOf (E := E) [x178.w] [] n
theorem f149_mathInf.ok : ∀ n v x, f149_mathInf.F n v = some x → evalFn E n 149 (flAs f149_mathInf.P (sg_i.pk v)) = some (f149_mathInf.A.enc x) :=
  fn_pure (modes := (fdAt 149).ms) (outs := (fdAt 149).os) (results := (fdAt 149).rs) f149_mathInf.O (c := c149) (keep := keepAt 149) (by kernel_rfl) (fun n => orcOf_cf _ _ n) (fun n => lpOk_of (bs := []) (by kernel_rfl) .nil) (fun _ => rfl) (fun _ _ => by kernel_rfl)
noncomputable def f149_mathInf.w : FnW E := fnW 149 f149_mathInf.P sg_i f149_mathInf.A f149_mathInf.F f149_mathInf.ok

def f148_i_exponential.l0 (n : Nat) : Nat → Nat → Nat → Nat → Option (Nat)
  | 0, _, _, _ => none
  | m + 1, x1, x2, x3 =>
    br (fge FloatKind.f64 x3 4607182418800017408) (
     let x4 : Nat := (fadd FloatKind.f64 4607182418800017408 (fdiv FloatKind.f64 (fmul FloatKind.f64 x1 x2) x3))
     f148_i_exponential.l0 n m x1 x4 (fsub FloatKind.f64 x3 4607182418800017408)) (
     some x2)
def f148_i_exponential.l1 (n : Nat) : Nat → Nat → Int → Option (Nat)
  | 0, _, _ => none
  | m + 1, x1, i2 =>
    br (decide (i2 < (8 : Int))) (
     let x3 : Nat := (fmul FloatKind.f64 x1 x1)
     f148_i_exponential.l1 n m x3 (IntKind.i64.wrap (i2 + (1 : Int)))) (
     some x1)
def f148_i_exponential : Nat → Nat → Option (Nat)
  | 0, _ => none
  | n + 1, x1 =>
    br (fgt FloatKind.f64 x1 4641240890982006784) (
     bd (f149_mathInf n (1 : Int)) fun r2 =>
     let x3 : Nat := r2
     some x3) (
     br (flt FloatKind.f64 x1 13864612927836782592) (
      some 0) (
      let x4 : Nat := (fdiv FloatKind.f64 x1 4643211215818981376)
      bd (f148_i_exponential.l0 n n x4 4607182418800017408 4622945017495814144) fun r5 =>
      let x6 : Nat := r5
      bd (f148_i_exponential.l1 n n x6 (0 : Int)) fun r7 =>
      let x8 : Nat := r7
      some x8))
def sg_fff : Sig (Nat × Nat × Nat) where
  pk := fun v => [.flt v.1, .flt v.2.1, .flt v.2.2]
  up := fun ls => match ls with
    | [.flt a0, .flt a1, .flt a2] => some (a0, a1, a2)
    | _ => none
  ok := by
    intro ls v h
    split at h
    · cases h; rfl
    · cases h

def sg_fi : Sig (Nat × Int) where
  pk := fun v => [.flt v.1, .int v.2]
  up := fun ls => match ls with
    | [.flt a0, .int a1] => some (a0, a1)
    | _ => none
  ok := by
    intro ls v h
    split at h
    · cases h; rfl
    · cases h

def f148_i_exponential.l0.P : AS := ⟨[(3, .val false [.leaf] [.flt .f64 0] [] 0), (4, .val false [.leaf] [.flt .f64 0] [] 0), (5, .val false [.leaf] [.flt .f64 0] [] 0)], 0⟩
def f148_i_exponential.l0.A : Alt (Nat) := .one (.exit 1) ⟨[(4, .val false [.leaf] [.flt .f64 0] [] 0)], 0⟩ sg_f
def f148_i_exponential.l0.F (n m : Nat) (v : Nat × Nat × Nat) := f148_i_exponential.l0 n m v.1 v.2.1 v.2.2
def f148_i_exponential.l0.W (n : Nat) : LpW := .of 112 f148_i_exponential.l0.P sg_fff f148_i_exponential.l0.A (f148_i_exponential.l0.F n n)
def f148_i_exponential.l1.P : AS := ⟨[(4, .val false [.leaf] [.flt .f64 0] [] 0), (6, .val false [.leaf] [.int .i64 0] [] 0)], 0⟩
def f148_i_exponential.l1.A : Alt (Nat) := .one (.exit 3) ⟨[(4, .val false [.leaf] [.flt .f64 0] [] 0)], 0⟩ sg_f
def f148_i_exponential.l1.F (n m : Nat) (v : Nat × Int) := f148_i_exponential.l1 n m v.1 v.2
def f148_i_exponential.l1.W (n : Nat) : LpW := .of 176 f148_i_exponential.l1.P sg_fi f148_i_exponential.l1.A (f148_i_exponential.l1.F n n)
def f148_i_exponential.P : List Arg := [⟨.val, ⟨false, [.leaf], [.flt .f64 0]⟩⟩]
def f148_i_exponential.A : RAlt (Nat) := .one ⟨[⟨false, [.leaf], [.flt .f64 0]⟩], [none]⟩ sg_f
def f148_i_exponential.F (n : Nat) (v : Nat) := f148_i_exponential n v
noncomputable def f148_i_exponential.O (n : Nat) : Orc := orcOf (E := E) [f149_mathInf.w] [f148_i_exponential.l0.W n, f148_i_exponential.l1.W n] n
theorem f148_i_exponential.l0.ok (n : Nat) : LpOk (f148_i_exponential.O n) E (evalFn E n) n (keepAt 148) (.loop (loopAt c148 0)) :=
  lp_pure f148_i_exponential.l0.P sg_fff f148_i_exponential.l0.A (f148_i_exponential.l0.F n) (orcOf_cf _ _ n) (lpOk_of (bs := []) (by kernel_rfl) .nil) (fun _ => rfl) (fun _ _ => by kernel_rfl) (fun _ _ _ => by kernel_rfl)
theorem f148_i_exponential.l1.ok (n : Nat) : LpOk (f148_i_exponential.O n) E (evalFn E n) n (keepAt 148) (.loop (loopAt c148 1)) :=
  lp_pure f148_i_exponential.l1.P sg_fi f148_i_exponential.l1.A (f148_i_exponential.l1.F n) (orcOf_cf _ _ n) (lpOk_of (bs := []) (by kernel_rfl) .nil) (fun _ => rfl) (fun _ _ => by kernel_rfl) (fun _ _ _ => by kernel_rfl)
theorem f148_i_exponential.ok : ∀ n v x, f148_i_exponential.F n v = some x → evalFn E n 148 (flAs f148_i_exponential.P (sg_f.pk v)) = some (f148_i_exponential.A.enc x) :=
  fn_pure (modes := (fdAt 148).ms) (outs := (fdAt 148).os) (results := (fdAt 148).rs) f148_i_exponential.O (c := c148) (keep := keepAt 148) (by kernel_rfl) (fun n => orcOf_cf _ _ n) (fun n => lpOk_of (bs := [loopAt c148 0, loopAt c148 1]) (by kernel_rfl) (.cons (f148_i_exponential.l0.ok n) (.cons (f148_i_exponential.l1.ok n) .nil))) (fun _ => rfl) (fun _ _ => by kernel_rfl)
noncomputable def f148_i_exponential.w : FnW E := fnW 148 f148_i_exponential.P sg_f f148_i_exponential.A f148_i_exponential.F f148_i_exponential.ok

def f72_i_GainOf : Nat → Int → Option (Nat × Bool)
  | 0, _ => none
  | n + 1, i1 =>
    bd (f147_i_isTenths n i1) fun r2 =>
    let b3 : Bool := r2
    br (!b3) (
     some (0, false)) (
     bd (f148_i_exponential n (fmul FloatKind.f64 (FloatKind.nearest FloatKind.f64 i1) 4577790371455803420)) fun r4 =>
     let x5 : Nat := r4
     bd ((fltToFlt FloatKind.f64 x5 FloatKind.f32)) fun y6 =>
     some (y6, true))
def sg_fb : Sig (Nat × Bool) where
  pk := fun v => [.flt v.1, .bool v.2]
  up := fun ls => match ls with
    | [.flt a0, .bool a1] => some (a0, a1)
    | _ => none
  ok := by
    intro ls v h
    split at h
    · cases h; rfl
    · cases h

def f72_i_GainOf.P : List Arg := [⟨.val, ⟨false, [.leaf], [.int .i64 0]⟩⟩]
def f72_i_GainOf.A : RAlt (Nat × Bool) := .one ⟨[⟨false, [.leaf], [.flt .f32 0]⟩, ⟨false, [.leaf], [.bool false]⟩], [none]⟩ sg_fb
def f72_i_GainOf.F (n : Nat) (v : Int) := f72_i_GainOf n v
noncomputable def f72_i_GainOf.O (n : Nat) : Orc := orcOf (E := E) [f147_i_isTenths.w, f148_i_exponential.w] [] n
theorem f72_i_GainOf.ok : ∀ n v x, f72_i_GainOf.F n v = some x → evalFn E n 72 (flAs f72_i_GainOf.P (sg_i.pk v)) = some (f72_i_GainOf.A.enc x) :=
  fn_pure (modes := (fdAt 72).ms) (outs := (fdAt 72).os) (results := (fdAt 72).rs) f72_i_GainOf.O (c := c72) (keep := keepAt 72) (by kernel_rfl) (fun n => orcOf_cf _ _ n) (fun n => lpOk_of (bs := []) (by kernel_rfl) .nil) (fun _ => rfl) (fun _ _ => by kernel_rfl)
noncomputable def f72_i_GainOf.w : FnW E := fnW 72 f72_i_GainOf.P sg_i f72_i_GainOf.A f72_i_GainOf.F f72_i_GainOf.ok

def f73_i_ExpNumber.l0 (n : Nat) : Nat → Nat → Nat → Nat → Option (Nat)
  | 0, _, _, _ => none
  | m + 1, x1, x2, x3 =>
    br (fge FloatKind.f64 x3 4607182418800017408) (
     let x4 : Nat := (fadd FloatKind.f64 4607182418800017408 (fdiv FloatKind.f64 (fmul FloatKind.f64 x1 x2) x3))
     f73_i_ExpNumber.l0 n m x1 x4 (fsub FloatKind.f64 x3 4607182418800017408)) (
     some x2)
def f73_i_ExpNumber.l1 (n : Nat) : Nat → Nat → Int → Option (Nat)
  | 0, _, _ => none
  | m + 1, x1, i2 =>
    br (decide (i2 < (8 : Int))) (
     let x3 : Nat := (fmul FloatKind.f64 x1 x1)
     f73_i_ExpNumber.l1 n m x3 (IntKind.i64.wrap (i2 + (1 : Int)))) (
     some x1)
def f73_i_ExpNumber : Nat → Nat → Option (Nat)
  | 0, _ => none
  | n + 1, x1 =>
    br (fgt FloatKind.f32 x1 1128792064) (
     bd (f149_mathInf n (1 : Int)) fun r2 =>
     let x3 : Nat := r2
     bd ((fltToFlt FloatKind.f64 x3 FloatKind.f32)) fun y4 =>
     some y4) (
     br (flt FloatKind.f32 x1 3276275712) (
      some 0) (
      bd ((fltToFlt FloatKind.f32 x1 FloatKind.f64)) fun y5 =>
      let x6 : Nat := (fdiv FloatKind.f64 y5 4643211215818981376)
      bd (f73_i_ExpNumber.l0 n n x6 4607182418800017408 4622945017495814144) fun r7 =>
      let x8 : Nat := r7
      bd (f73_i_ExpNumber.l1 n n x8 (0 : Int)) fun r9 =>
      let x10 : Nat := r9
      bd ((fltToFlt FloatKind.f64 x10 FloatKind.f32)) fun y11 =>
      some y11))
def f73_i_ExpNumber.l0.P : AS := ⟨[(3, .val false [.leaf] [.flt .f64 0] [] 0), (4, .val false [.leaf] [.flt .f64 0] [] 0), (5, .val false [.leaf] [.flt .f64 0] [] 0)], 0⟩
def f73_i_ExpNumber.l0.A : Alt (Nat) := .one (.exit 1) ⟨[(4, .val false [.leaf] [.flt .f64 0] [] 0)], 0⟩ sg_f
def f73_i_ExpNumber.l0.F (n m : Nat) (v : Nat × Nat × Nat) := f73_i_ExpNumber.l0 n m v.1 v.2.1 v.2.2
def f73_i_ExpNumber.l0.W (n : Nat) : LpW := .of 112 f73_i_ExpNumber.l0.P sg_fff f73_i_ExpNumber.l0.A (f73_i_ExpNumber.l0.F n n)
def f73_i_ExpNumber.l1.P : AS := ⟨[(4, .val false [.leaf] [.flt .f64 0] [] 0), (6, .val false [.leaf] [.int .i64 0] [] 0)], 0⟩
def f73_i_ExpNumber.l1.A : Alt (Nat) := .one (.exit 3) ⟨[(4, .val false [.leaf] [.flt .f64 0] [] 0)], 0⟩ sg_f
def f73_i_ExpNumber.l1.F (n m : Nat) (v : Nat × Int) := f73_i_ExpNumber.l1 n m v.1 v.2
def f73_i_ExpNumber.l1.W (n : Nat) : LpW := .of 176 f73_i_ExpNumber.l1.P sg_fi f73_i_ExpNumber.l1.A (f73_i_ExpNumber.l1.F n n)
def f73_i_ExpNumber.P : List Arg := [⟨.val, ⟨false, [.leaf], [.flt .f32 0]⟩⟩]
def f73_i_ExpNumber.A : RAlt (Nat) := .one ⟨[⟨false, [.leaf], [.flt .f32 0]⟩], [none]⟩ sg_f
def f73_i_ExpNumber.F (n : Nat) (v : Nat) := f73_i_ExpNumber n v
noncomputable def f73_i_ExpNumber.O (n : Nat) : Orc := orcOf (E := E) [f149_mathInf.w] [f73_i_ExpNumber.l0.W n, f73_i_ExpNumber.l1.W n] n
theorem f73_i_ExpNumber.l0.ok (n : Nat) : LpOk (f73_i_ExpNumber.O n) E (evalFn E n) n (keepAt 73) (.loop (loopAt c73 0)) :=
  lp_pure f73_i_ExpNumber.l0.P sg_fff f73_i_ExpNumber.l0.A (f73_i_ExpNumber.l0.F n) (orcOf_cf _ _ n) (lpOk_of (bs := []) (by kernel_rfl) .nil) (fun _ => rfl) (fun _ _ => by kernel_rfl) (fun _ _ _ => by kernel_rfl)
theorem f73_i_ExpNumber.l1.ok (n : Nat) : LpOk (f73_i_ExpNumber.O n) E (evalFn E n) n (keepAt 73) (.loop (loopAt c73 1)) :=
  lp_pure f73_i_ExpNumber.l1.P sg_fi f73_i_ExpNumber.l1.A (f73_i_ExpNumber.l1.F n) (orcOf_cf _ _ n) (lpOk_of (bs := []) (by kernel_rfl) .nil) (fun _ => rfl) (fun _ _ => by kernel_rfl) (fun _ _ _ => by kernel_rfl)
theorem f73_i_ExpNumber.ok : ∀ n v x, f73_i_ExpNumber.F n v = some x → evalFn E n 73 (flAs f73_i_ExpNumber.P (sg_f.pk v)) = some (f73_i_ExpNumber.A.enc x) :=
  fn_pure (modes := (fdAt 73).ms) (outs := (fdAt 73).os) (results := (fdAt 73).rs) f73_i_ExpNumber.O (c := c73) (keep := keepAt 73) (by kernel_rfl) (fun n => orcOf_cf _ _ n) (fun n => lpOk_of (bs := [loopAt c73 0, loopAt c73 1]) (by kernel_rfl) (.cons (f73_i_ExpNumber.l0.ok n) (.cons (f73_i_ExpNumber.l1.ok n) .nil))) (fun _ => rfl) (fun _ _ => by kernel_rfl)
noncomputable def f73_i_ExpNumber.w : FnW E := fnW 73 f73_i_ExpNumber.P sg_f f73_i_ExpNumber.A f73_i_ExpNumber.F f73_i_ExpNumber.ok

def f136_i_IsFinite : Nat → Nat → Option (Bool)
  | 0, _ => none
  | n + 1, x1 =>
    some (feq FloatKind.f32 (fsub FloatKind.f32 x1 x1) 0)
def f136_i_IsFinite.P : List Arg := [⟨.val, ⟨false, [.leaf], [.flt .f32 0]⟩⟩]
def f136_i_IsFinite.A : RAlt (Bool) := .one ⟨[⟨false, [.leaf], [.bool false]⟩], [none]⟩ sg_b
def f136_i_IsFinite.F (n : Nat) (v : Nat) := f136_i_IsFinite n v
noncomputable def f136_i_IsFinite.O (n : Nat) : Orc := orcOf (E := E) [] [] n
theorem f136_i_IsFinite.ok : ∀ n v x, f136_i_IsFinite.F n v = some x → evalFn E n 136 (flAs f136_i_IsFinite.P (sg_f.pk v)) = some (f136_i_IsFinite.A.enc x) :=
  fn_pure (modes := (fdAt 136).ms) (outs := (fdAt 136).os) (results := (fdAt 136).rs) f136_i_IsFinite.O (c := c136) (keep := keepAt 136) (by kernel_rfl) (fun n => orcOf_cf _ _ n) (fun n => lpOk_of (bs := []) (by kernel_rfl) .nil) (fun _ => rfl) (fun _ _ => by kernel_rfl)
noncomputable def f136_i_IsFinite.w : FnW E := fnW 136 f136_i_IsFinite.P sg_f f136_i_IsFinite.A f136_i_IsFinite.F f136_i_IsFinite.ok

def f150_i_logarithm.l0 (n : Nat) : Nat → Nat → Nat → Option (Nat × Nat)
  | 0, _, _ => none
  | m + 1, x1, x2 =>
    br (fge FloatKind.f64 x1 4609434218613702656) (
     let x3 : Nat := (fdiv FloatKind.f64 x1 4611686018427387904)
     f150_i_logarithm.l0 n m x3 (fadd FloatKind.f64 x2 4607182418800017408)) (
     some (x1, x2))
def f150_i_logarithm.l1 (n : Nat) : Nat → Nat → Nat → Option (Nat × Nat)
  | 0, _, _ => none
  | m + 1, x1, x2 =>
    br (flt FloatKind.f64 x1 4604930618986332160) (
     let x3 : Nat := (fmul FloatKind.f64 x1 4611686018427387904)
     f150_i_logarithm.l1 n m x3 (fsub FloatKind.f64 x2 4607182418800017408)) (
     some (x1, x2))
def f150_i_logarithm.l2 (n : Nat) : Nat → Nat → Nat → Nat → Nat → Nat → Option (Nat × Nat × Nat)
  | 0, _, _, _, _, _ => none
  | m + 1, x1, x2, x3, x4, x5 =>
    br (fge FloatKind.f64 x5 4607182418800017408) (
     let x6 : Nat := (fadd FloatKind.f64 (fdiv FloatKind.f64 4607182418800017408 x5) (fmul FloatKind.f64 x3 x4))
     f150_i_logarithm.l2 n m x1 x2 x3 x6 (fsub FloatKind.f64 x5 4611686018427387904)) (
     some (x1, x2, x4))
def f150_i_logarithm : Nat → Nat → Option (Nat)
  | 0, _ => none
  | n + 1, x1 =>
    bd (f150_i_logarithm.l0 n n x1 0) fun r2 =>
    let x3 : Nat := r2.1
    let x4 : Nat := r2.2
    bd (f150_i_logarithm.l1 n n x3 x4) fun r5 =>
    let x6 : Nat := r5.1
    let x7 : Nat := r5.2
    let x8 : Nat := (fdiv FloatKind.f64 (fsub FloatKind.f64 x6 4607182418800017408) (fadd FloatKind.f64 x6 4607182418800017408))
    let x9 : Nat := (fmul FloatKind.f64 x8 x8)
    bd (f150_i_logarithm.l2 n n x7 x8 x9 0 4627730092099895296) fun r10 =>
    let x11 : Nat := r10.1
    let x12 : Nat := r10.2.1
    let x13 : Nat := r10.2.2
    some (fadd FloatKind.f64 (fmul FloatKind.f64 4611686018427387904 (fmul FloatKind.f64 x12 x13)) (fmul FloatKind.f64 x11 4604418534313441775))
def sg_fffff : Sig (Nat × Nat × Nat × Nat × Nat) where
  pk := fun v => [.flt v.1, .flt v.2.1, .flt v.2.2.1, .flt v.2.2.2.1, .flt v.2.2.2.2]
  up := fun ls => match ls with
    | [.flt a0, .flt a1, .flt a2, .flt a3, .flt a4] => some (a0, a1, a2, a3, a4)
    | _ => none
  ok := by
    intro ls v h
    split at h
    · cases h; rfl
    · cases h

def f150_i_logarithm.l0.P : AS := ⟨[(0, .val false [.leaf] [.flt .f64 0] [] 0), (3, .val false [.leaf] [.flt .f64 0] [] 0)], 0⟩
def f150_i_logarithm.l0.A : Alt (Nat × Nat) := .one (.exit 0) ⟨[(0, .val false [.leaf] [.flt .f64 0] [] 0), (3, .val false [.leaf] [.flt .f64 0] [] 0)], 0⟩ sg_ff
def f150_i_logarithm.l0.F (n m : Nat) (v : Nat × Nat) := f150_i_logarithm.l0 n m v.1 v.2
def f150_i_logarithm.l0.W (n : Nat) : LpW := .of 32 f150_i_logarithm.l0.P sg_ff f150_i_logarithm.l0.A (f150_i_logarithm.l0.F n n)
def f150_i_logarithm.l1.P : AS := ⟨[(0, .val false [.leaf] [.flt .f64 0] [] 0), (3, .val false [.leaf] [.flt .f64 0] [] 0)], 0⟩
def f150_i_logarithm.l1.A : Alt (Nat × Nat) := .one (.exit 2) ⟨[(0, .val false [.leaf] [.flt .f64 0] [] 0), (3, .val false [.leaf] [.flt .f64 0] [] 0)], 0⟩ sg_ff
def f150_i_logarithm.l1.F (n m : Nat) (v : Nat × Nat) := f150_i_logarithm.l1 n m v.1 v.2
def f150_i_logarithm.l1.W (n : Nat) : LpW := .of 80 f150_i_logarithm.l1.P sg_ff f150_i_logarithm.l1.A (f150_i_logarithm.l1.F n n)
def f150_i_logarithm.l2.P : AS := ⟨[(3, .val false [.leaf] [.flt .f64 0] [] 0), (4, .val false [.leaf] [.flt .f64 0] [] 0), (5, .val false [.leaf] [.flt .f64 0] [] 0), (6, .val false [.leaf] [.flt .f64 0] [] 0), (7, .val false [.leaf] [.flt .f64 0] [] 0)], 0⟩
def f150_i_logarithm.l2.A : Alt (Nat × Nat × Nat) := .one (.exit 4) ⟨[(3, .val false [.leaf] [.flt .f64 0] [] 0), (4, .val false [.leaf] [.flt .f64 0] [] 0), (6, .val false [.leaf] [.flt .f64 0] [] 0)], 0⟩ sg_fff
def f150_i_logarithm.l2.F (n m : Nat) (v : Nat × Nat × Nat × Nat × Nat) := f150_i_logarithm.l2 n m v.1 v.2.1 v.2.2.1 v.2.2.2.1 v.2.2.2.2
def f150_i_logarithm.l2.W (n : Nat) : LpW := .of 176 f150_i_logarithm.l2.P sg_fffff f150_i_logarithm.l2.A (f150_i_logarithm.l2.F n n)
def f150_i_logarithm.P : List Arg := [⟨.val, ⟨false, [.leaf], [.flt .f64 0]⟩⟩]
def f150_i_logarithm.A : RAlt (Nat) := .one ⟨[⟨false, [.leaf], [.flt .f64 0]⟩], [none]⟩ sg_f
def f150_i_logarithm.F (n : Nat) (v : Nat) := f150_i_logarithm n v
noncomputable def f150_i_logarithm.O (n : Nat) : Orc := orcOf (E := E) [] [f150_i_logarithm.l0.W n, f150_i_logarithm.l1.W n, f150_i_logarithm.l2.W n] n
theorem f150_i_logarithm.l0.ok (n : Nat) : LpOk (f150_i_logarithm.O n) E (evalFn E n) n (keepAt 150) (.loop (loopAt c150 0)) :=
  lp_pure f150_i_logarithm.l0.P sg_ff f150_i_logarithm.l0.A (f150_i_logarithm.l0.F n) (orcOf_cf _ _ n) (lpOk_of (bs := []) (by kernel_rfl) .nil) (fun _ => rfl) (fun _ _ => by kernel_rfl) (fun _ _ _ => by kernel_rfl)
theorem f150_i_logarithm.l1.ok (n : Nat) : LpOk (f150_i_logarithm.O n) E (evalFn E n) n (keepAt 150) (.loop (loopAt c150 1)) :=
  lp_pure f150_i_logarithm.l1.P sg_ff f150_i_logarithm.l1.A (f150_i_logarithm.l1.F n) (orcOf_cf _ _ n) (lpOk_of (bs := []) (by kernel_rfl) .nil) (fun _ => rfl) (fun _ _ => by kernel_rfl) (fun _ _ _ => by kernel_rfl)
theorem f150_i_logarithm.l2.ok (n : Nat) : LpOk (f150_i_logarithm.O n) E (evalFn E n) n (keepAt 150) (.loop (loopAt c150 2)) :=
  lp_pure f150_i_logarithm.l2.P sg_fffff f150_i_logarithm.l2.A (f150_i_logarithm.l2.F n) (orcOf_cf _ _ n) (lpOk_of (bs := []) (by kernel_rfl) .nil) (fun _ => rfl) (fun _ _ => by kernel_rfl) (fun _ _ _ => by kernel_rfl)
theorem f150_i_logarithm.ok : ∀ n v x, f150_i_logarithm.F n v = some x → evalFn E n 150 (flAs f150_i_logarithm.P (sg_f.pk v)) = some (f150_i_logarithm.A.enc x) :=
  fn_pure (modes := (fdAt 150).ms) (outs := (fdAt 150).os) (results := (fdAt 150).rs) f150_i_logarithm.O (c := c150) (keep := keepAt 150) (by kernel_rfl) (fun n => orcOf_cf _ _ n) (fun n => lpOk_of (bs := [loopAt c150 0, loopAt c150 1, loopAt c150 2]) (by kernel_rfl) (.cons (f150_i_logarithm.l0.ok n) (.cons (f150_i_logarithm.l1.ok n) (.cons (f150_i_logarithm.l2.ok n) .nil)))) (fun _ => rfl) (fun _ _ => by kernel_rfl)
noncomputable def f150_i_logarithm.w : FnW E := fnW 150 f150_i_logarithm.P sg_f f150_i_logarithm.A f150_i_logarithm.F f150_i_logarithm.ok

def f74_i_LogNumber : Nat → Nat → Option (Nat)
  | 0, _ => none
  | n + 1, x1 =>
    br (fne FloatKind.f32 x1 x1) (
     bd (f144_mathNaN n) fun r2 =>
     let x3 : Nat := r2
     bd ((fltToFlt FloatKind.f64 x3 FloatKind.f32)) fun y4 =>
     some y4) (
     br (flt FloatKind.f32 x1 0) (
      bd (f144_mathNaN n) fun r5 =>
      let x6 : Nat := r5
      bd ((fltToFlt FloatKind.f64 x6 FloatKind.f32)) fun y7 =>
      some y7) (
      br (feq FloatKind.f32 x1 0) (
       bd (f149_mathInf n (-1 : Int)) fun r8 =>
       let x9 : Nat := r8
       bd ((fltToFlt FloatKind.f64 x9 FloatKind.f32)) fun y10 =>
       some y10) (
       bd (f136_i_IsFinite n x1) fun r11 =>
       let b12 : Bool := r11
       br (!b12) (
        some x1) (
        bd ((fltToFlt FloatKind.f32 x1 FloatKind.f64)) fun y13 =>
        bd (f150_i_logarithm n y13) fun r14 =>
        let x15 : Nat := r14
        bd ((fltToFlt FloatKind.f64 x15 FloatKind.f32)) fun y16 =>
        some y16))))
def f74_i_LogNumber.P : List Arg := [⟨.val, ⟨false, [.leaf], [.flt .f32 0]⟩⟩]
def f74_i_LogNumber.A : RAlt (Nat) := .one ⟨[⟨false, [.leaf], [.flt .f32 0]⟩], [none]⟩ sg_f
def f74_i_LogNumber.F (n : Nat) (v : Nat) := f74_i_LogNumber n v
noncomputable def f74_i_LogNumber.O (n : Nat) : Orc := orcOf (E := E) [f144_mathNaN.w, f149_mathInf.w, f136_i_IsFinite.w, f150_i_logarithm.w] [] n
theorem f74_i_LogNumber.ok : ∀ n v x, f74_i_LogNumber.F n v = some x → evalFn E n 74 (flAs f74_i_LogNumber.P (sg_f.pk v)) = some (f74_i_LogNumber.A.enc x) :=
  fn_pure (modes := (fdAt 74).ms) (outs := (fdAt 74).os) (results := (fdAt 74).rs) f74_i_LogNumber.O (c := c74) (keep := keepAt 74) (by kernel_rfl) (fun n => orcOf_cf _ _ n) (fun n => lpOk_of (bs := []) (by kernel_rfl) .nil) (fun _ => rfl) (fun _ _ => by kernel_rfl)
noncomputable def f74_i_LogNumber.w : FnW E := fnW 74 f74_i_LogNumber.P sg_f f74_i_LogNumber.A f74_i_LogNumber.F f74_i_LogNumber.ok

def f151_mathSqrt : Nat → Nat → Option (Nat)
  | 0, _ => none
  | n + 1, x1 =>
    bd (xSqrt n x1) fun r2 =>
    let x3 : Nat := r2
    some x3
def f151_mathSqrt.P : List Arg := [⟨.val, ⟨false, [.leaf], [.flt .f64 0]⟩⟩]
def f151_mathSqrt.A : RAlt (Nat) := .one ⟨[⟨false, [.leaf], [.flt .f64 0]⟩], [none]⟩ sg_f
def f151_mathSqrt.F (n : Nat) (v : Nat) := f151_mathSqrt n v
noncomputable def f151_mathSqrt.O (n : Nat) : Orc := orcOf (E := E) [x181.w] [] n
theorem f151_mathSqrt.ok : ∀ n v x, f151_mathSqrt.F n v = some x → evalFn E n 151 (flAs f151_mathSqrt.P (sg_f.pk v)) = some (f151_mathSqrt.A.enc x) :=
  fn_pure (modes := (fdAt 151).ms) (outs := (fdAt 151).os) (results := (fdAt 151).rs) f151_mathSqrt.O (c := c151) (keep := keepAt 151) (by kernel_rfl) (fun n => orcOf_cf _ _ n) (fun n => lpOk_of (bs := []) (by kernel_rfl) .nil) (fun _ => rfl) (fun _ _ => by kernel_rfl)
noncomputable def f151_mathSqrt.w : FnW E := fnW 151 f151_mathSqrt.P sg_f f151_mathSqrt.A f151_mathSqrt.F f151_mathSqrt.ok

def f75_i_RootNumber : Nat → Nat → Option (Nat)
  | 0, _ => none
  | n + 1, x1 =>
    bd ((fltToFlt FloatKind.f32 x1 FloatKind.f64)) fun y2 =>
    bd (f151_mathSqrt n y2) fun r3 =>
    let x4 : Nat := r3
    bd ((fltToFlt FloatKind.f64 x4 FloatKind.f32)) fun y5 =>
    some y5
def f75_i_RootNumber.P : List Arg := [⟨.val, ⟨false, [.leaf], [.flt .f32 0]⟩⟩]
def f75_i_RootNumber.A : RAlt (Nat) := .one ⟨[⟨false, [.leaf], [.flt .f32 0]⟩], [none]⟩ sg_f
def f75_i_RootNumber.F (n : Nat) (v : Nat) := f75_i_RootNumber n v
noncomputable def f75_i_RootNumber.O (n : Nat) : Orc := orcOf (E := E) [f151_mathSqrt.w] [] n
theorem f75_i_RootNumber.ok : ∀ n v x, f75_i_RootNumber.F n v = some x → evalFn E n 75 (flAs f75_i_RootNumber.P (sg_f.pk v)) = some (f75_i_RootNumber.A.enc x) :=
  fn_pure (modes := (fdAt 75).ms) (outs := (fdAt 75).os) (results := (fdAt 75).rs) f75_i_RootNumber.O (c := c75) (keep := keepAt 75) (by kernel_rfl) (fun n => orcOf_cf _ _ n) (fun n => lpOk_of (bs := []) (by kernel_rfl) .nil) (fun _ => rfl) (fun _ _ => by kernel_rfl)
noncomputable def f75_i_RootNumber.w : FnW E := fnW 75 f75_i_RootNumber.P sg_f f75_i_RootNumber.A f75_i_RootNumber.F f75_i_RootNumber.ok

def f76_i_TanhNumber : Nat → Nat → Option (Nat)
  | 0, _ => none
  | n + 1, x1 =>
    br (fgt FloatKind.f32 x1 1101004800) (
     some 1065353216) (
     br (flt FloatKind.f32 x1 3248488448) (
      some 3212836864) (
      bd ((fltToFlt FloatKind.f32 x1 FloatKind.f64)) fun y2 =>
      bd (f148_i_exponential n (fmul FloatKind.f64 4611686018427387904 y2)) fun r3 =>
      let x4 : Nat := r3
      bd ((fltToFlt FloatKind.f64 (fdiv FloatKind.f64 (fsub FloatKind.f64 x4 4607182418800017408) (fadd FloatKind.f64 x4 4607182418800017408)) FloatKind.f32)) fun y5 =>
      some y5))
def f76_i_TanhNumber.P : List Arg := [⟨.val, ⟨false, [.leaf], [.flt .f32 0]⟩⟩]
def f76_i_TanhNumber.A : RAlt (Nat) := .one ⟨[⟨false, [.leaf], [.flt .f32 0]⟩], [none]⟩ sg_f
def f76_i_TanhNumber.F (n : Nat) (v : Nat) := f76_i_TanhNumber n v
noncomputable def f76_i_TanhNumber.O (n : Nat) : Orc := orcOf (E := E) [f148_i_exponential.w] [] n
theorem f76_i_TanhNumber.ok : ∀ n v x, f76_i_TanhNumber.F n v = some x → evalFn E n 76 (flAs f76_i_TanhNumber.P (sg_f.pk v)) = some (f76_i_TanhNumber.A.enc x) :=
  fn_pure (modes := (fdAt 76).ms) (outs := (fdAt 76).os) (results := (fdAt 76).rs) f76_i_TanhNumber.O (c := c76) (keep := keepAt 76) (by kernel_rfl) (fun n => orcOf_cf _ _ n) (fun n => lpOk_of (bs := []) (by kernel_rfl) .nil) (fun _ => rfl) (fun _ _ => by kernel_rfl)
noncomputable def f76_i_TanhNumber.w : FnW E := fnW 76 f76_i_TanhNumber.P sg_f f76_i_TanhNumber.A f76_i_TanhNumber.F f76_i_TanhNumber.ok

def f12_l_FnSines : Nat → Nat → List T → Nat → List T → Option (Bool)
  | 0, _, _, _, _ => none
  | n + 1, n1, l2, n3, l4 =>
    bd (f28_l_b10Long n n1 l2 n3 l4) fun r5 =>
    let b6 : Bool := r5
    br b6 (
     some true) (
     bd (f69_s_B10Plain n n1 l2) fun r7 =>
     let x8 : Nat := r7
     bd (f70_i_SineTurns n x8) fun r9 =>
     let x10 : Nat := r9
     bd ((fltToFlt FloatKind.f32 x10 FloatKind.f64)) fun y11 =>
     bd (f70_i_SineTurns n (fadd FloatKind.f32 x8 1048576000)) fun r12 =>
     let x13 : Nat := r12
     bd ((fltToFlt FloatKind.f32 x13 FloatKind.f64)) fun y14 =>
     bd (f70_i_SineTurns n (fadd FloatKind.f32 x8 1065353216)) fun r15 =>
     let x16 : Nat := r15
     bd ((fltToFlt FloatKind.f32 x16 FloatKind.f64)) fun y17 =>
     bd (f70_i_SineTurns n (negF FloatKind.f32 x8)) fun r18 =>
     let x19 : Nat := r18
     bd ((fltToFlt FloatKind.f32 x19 FloatKind.f64)) fun y20 =>
     br (fgt FloatKind.f64 y11 4607182418800017408) (
      some false) (
      br (flt FloatKind.f64 y11 13830554455654793216) (
       some false) (
       bd (f71_l_b10Gap n (fadd FloatKind.f64 (fmul FloatKind.f64 y11 y11) (fmul FloatKind.f64 y14 y14)) 4607182418800017408) fun r21 =>
       let x22 : Nat := r21
       br (fgt FloatKind.f64 x22 4547007122018943789) (
        some false) (
        bd (f71_l_b10Gap n y11 y17) fun r23 =>
        let x24 : Nat := r23
        br (fgt FloatKind.f64 x24 4547007122018943789) (
         some false) (
         bd (f71_l_b10Gap n y11 (negF FloatKind.f64 y20)) fun r25 =>
         let x26 : Nat := r25
         br (fgt FloatKind.f64 x26 4547007122018943789) (
          some false) (
          bd (f29_l_b10At n n3 l4 (0 : Int) (256 : Int)) fun r27 =>
          let i28 : Int := r27
          let i29 : Int := (IntKind.i64.wrap (i28 - (128 : Int)))
          bd (f29_l_b10At n n3 l4 (1 : Int) (256 : Int)) fun r30 =>
          let i31 : Int := r30
          let i32 : Int := (IntKind.i64.wrap (i31 - (128 : Int)))
          bd (f72_i_GainOf n i29) fun r33 =>
          let x34 : Nat := r33.1
          let b35 : Bool := r33.2
          bd (f72_i_GainOf n i32) fun r36 =>
          let x37 : Nat := r36.1
          let b38 : Bool := r36.2
          bd (f72_i_GainOf n (IntKind.i64.wrap (i29 + i32))) fun r39 =>
          let x40 : Nat := r39.1
          let b41 : Bool := r39.2
          bd (f72_i_GainOf n (0 : Int)) fun r42 =>
          let x43 : Nat := r42.1
          let b44 : Bool := r42.2
          bd ((fltToFlt FloatKind.f32 x34 FloatKind.f64)) fun y45 =>
          bd ((fltToFlt FloatKind.f32 x37 FloatKind.f64)) fun y46 =>
          bd ((fltToFlt FloatKind.f32 x40 FloatKind.f64)) fun y47 =>
          let x48 : Nat := (fdiv FloatKind.f64 (fmul FloatKind.f64 y45 y46) y47)
          br (!b35) (
           some false) (
           br (!b38) (
            some false) (
            br (!b41) (
             some false) (
             br (!b44) (
              some false) (
              br (fne FloatKind.f32 x43 1065353216) (
               some false) (
               bd (f71_l_b10Gap n x48 4607182418800017408) fun r49 =>
               let x50 : Nat := r49
               br (fgt FloatKind.f64 x50 4532020583610935537) (
                some false) (
                bd (f73_i_ExpNumber n 1065353216) fun r51 =>
                let x52 : Nat := r51
                bd (f74_i_LogNumber n x52) fun r53 =>
                let x54 : Nat := r53
                bd ((fltToFlt FloatKind.f32 x54 FloatKind.f64)) fun y55 =>
                bd (f71_l_b10Gap n y55 4607182418800017408) fun r56 =>
                let x57 : Nat := r56
                br (flt FloatKind.f64 x57 4532020583610935537) (
                 bd (f75_i_RootNumber n 1091567616) fun r58 =>
                 let x59 : Nat := r58
                 br (feq FloatKind.f32 x59 1077936128) (
                  bd (f76_i_TanhNumber n 1106247680) fun r60 =>
                  let x61 : Nat := r60
                  some (feq FloatKind.f32 x61 1065353216)) (
                  some false)) (
                 some false)))))))))))))
def f12_l_FnSines.P : List Arg := [⟨.val, ⟨false, [.sl .shr [.leaf]], [.lst 0 []]⟩⟩, ⟨.val, ⟨false, [.sl .shr [.leaf]], [.lst 0 []]⟩⟩]
def f12_l_FnSines.A : RAlt (Bool) := .one ⟨[⟨false, [.leaf], [.bool false]⟩], [none, none]⟩ sg_b
def f12_l_FnSines.F (n : Nat) (v : Nat × List T × Nat × List T) := f12_l_FnSines n v.1 v.2.1 v.2.2.1 v.2.2.2
noncomputable def f12_l_FnSines.O (n : Nat) : Orc := orcOf (E := E) [f28_l_b10Long.w, f69_s_B10Plain.w, f70_i_SineTurns.w, f71_l_b10Gap.w, f29_l_b10At.w, f72_i_GainOf.w, f73_i_ExpNumber.w, f74_i_LogNumber.w, f75_i_RootNumber.w, f76_i_TanhNumber.w] [] n
theorem f12_l_FnSines.ok : ∀ n v x, f12_l_FnSines.F n v = some x → evalFn E n 12 (flAs f12_l_FnSines.P (sg_ll.pk v)) = some (f12_l_FnSines.A.enc x) :=
  fn_pure (modes := (fdAt 12).ms) (outs := (fdAt 12).os) (results := (fdAt 12).rs) f12_l_FnSines.O (c := c12) (keep := keepAt 12) (by kernel_rfl) (fun n => orcOf_cf _ _ n) (fun n => lpOk_of (bs := []) (by kernel_rfl) .nil) (fun _ => rfl) (fun _ _ => by kernel_rfl)
noncomputable def f12_l_FnSines.w : FnW E := fnW 12 f12_l_FnSines.P sg_ll f12_l_FnSines.A f12_l_FnSines.F f12_l_FnSines.ok
end Go.Proofs.Ytjkhhalnlodinaa.D
end
section
/- FnSines, in plain Lean. -/
namespace Go.Proofs.Ytjkhhalnlodinaa.D
open Go Go.Desk
set_option linter.unusedVariables false
theorem s_from (n l : Nat) (c : List T) : f90_s_l00From (n + 1) l c = some (l, c, 0, 0) := by rw [f90_s_l00From]
theorem s_next (n : Nat) {bs : List Int} (hb : Bytes bs) {a : Int} (h0 : 0 ≤ a) (h1 : a ≤ 1125899906842624) (sd : Int) :
    ∃ r sd', (0 ≤ r ∧ r ≤ 255) ∧ f163_s_l00Srcnext (n + 1) bs.length (its .u8 bs) a sd = some (r, bs.length, its .u8 bs, a + 1, sd') := by
  rw [f163_s_l00Srcnext]
  rw [show IntKind.i64.wrap (a + 1) = a + 1 by rw [wrap64] <;> omega]
  cases h : decide (a < (bs.length : Int))
  · simp only [br_f]
    cases decide (a + 1 ≤ (bs.length : Int))
    · exact ⟨_, _, and255 _, rfl⟩
    · exact ⟨0, _, by omega, rfl⟩
  · simp only [decide_eq_true_eq] at h
    obtain ⟨i, rfl⟩ := Int.eq_ofNat_of_zero_le h0
    have hi : i < bs.length := by omega
    have hr := hb (bs[i]) (List.getElem_mem _)
    simp only [br_t, in_dec hi, Int.toNat_natCast, okAt_its hi, Bool.and_self, gd_t, iAt_its]
    rw [show bs.getD i 0 = bs[i] by simp [List.getD, hi], show IntKind.i64.wrap bs[i] = bs[i] by rw [wrap64] <;> omega]
    cases decide ((i : Int) + 1 ≤ (bs.length : Int))
    · exact ⟨_, _, and255 _, rfl⟩
    · exact ⟨_, _, hr, rfl⟩
theorem s_pick (n : Nat) {bs : List Int} (hb : Bytes bs) {a : Int} (h0 : 0 ≤ a) (h1 : a ≤ 1125899906842622) (sd k : Int) :
    ∃ r a' sd', (0 ≤ r ∧ (1 < k → r < k) ∧ (k ≤ 1 → r = 0)) ∧ (a ≤ a' ∧ a' ≤ a + 2) ∧ f97_s_l00Srcpick (n + 2) bs.length (its .u8 bs) a sd k = some (r, bs.length, its .u8 bs, a', sd') := by
  rw [f97_s_l00Srcpick]
  by_cases hk : k ≤ 1
  · rw [decide_eq_true hk]; exact ⟨0, a, sd, by omega, by omega, rfl⟩
  rw [decide_eq_false hk]
  obtain ⟨r, s1, hr, e1⟩ := s_next n hb h0 (by omega) sd
  simp only [br_f, e1, bd_s]
  have hk0 : (!decide (k = 0)) = true := by simp; omega
  by_cases hk2 : k > 200
  · rw [decide_eq_true hk2]
    obtain ⟨r', s2, hr', e2⟩ := s_next n hb (a := a + 1) (by omega) (by omega) s1
    simp only [br_t, e2, bd_s, hk0, gd_t]
    rw [show IntKind.i64.wrap (r * 256) = r * 256 by rw [wrap64] <;> omega, show IntKind.i64.wrap (r * 256 + r') = r * 256 + r' by rw [wrap64] <;> omega]
    refine ⟨_, _, _, ?_, ?_, rfl⟩
    · rw [Int.tmod_eq_emod_of_nonneg (by omega)]
      have := Int.emod_nonneg (r * 256 + r') (show k ≠ 0 by omega)
      have := Int.emod_lt_of_pos (r * 256 + r') (show 0 < k by omega)
      omega
    · omega
  · rw [decide_eq_false hk2]
    simp only [br_f, hk0, gd_t]
    refine ⟨_, _, _, ?_, ?_, rfl⟩
    · rw [Int.tmod_eq_emod_of_nonneg (by omega)]
      have := Int.emod_nonneg r (show k ≠ 0 by omega)
      have := Int.emod_lt_of_pos r (show 0 < k by omega)
      omega
    · omega
theorem s_one (n : Nat) {bs : List Int} (hb : Bytes bs) {a : Int} (h0 : 0 ≤ a) (h1 : a ≤ 1125899906842622) (sd k : Int) :
    ∃ r a' sd', (a ≤ a' ∧ a' ≤ a + 2) ∧ f158_s_l00Srcone (n + 3) bs.length (its .u8 bs) a sd k = some (r, bs.length, its .u8 bs, a', sd') := by
  obtain ⟨r, a', s', -, ha, e⟩ := s_pick n hb h0 h1 sd k
  rw [f158_s_l00Srcone, e]
  exact ⟨_, _, _, ha, rfl⟩
theorem s_plain (n : Nat) {bs : List Int} (hb : Bytes bs) {a : Int} (h0 : 0 ≤ a) (h1 : a ≤ 1125899906842620) (sd : Int) :
    ∃ x a' sd', Plain x ∧ (a ≤ a' ∧ a' ≤ a + 4) ∧ f91_s_l01DrawPlain (n + 4) bs.length (its .u8 bs) a sd = some (x, bs.length, its .u8 bs, a', sd') := by
  obtain ⟨r, a1, s1, hr, ha, e⟩ := s_pick (n + 1) hb h0 (by omega) sd 129
  obtain ⟨b, a2, s2, ha2, e2⟩ := s_one n hb (a := a1) (by omega) (by omega) s1 4
  rw [f91_s_l01DrawPlain, e]
  simp only [bd_s, e2]
  rw [show IntKind.i64.wrap (r - 64) = r - 64 by rw [wrap64] <;> omega]
  cases b
  · exact ⟨_, a2, s2, ⟨r - 64, by omega, .inr rfl⟩, by omega, rfl⟩
  · exact ⟨_, a2, s2, ⟨r - 64, by omega, .inl rfl⟩, by omega, rfl⟩

theorem l_long10 (n : Nat) (bs cs : List Int) : f28_l_b10Long (n + 1) bs.length (its .u8 bs) cs.length (its .u8 cs) = some (decide (1048576 < bs.length ∨ 1048576 < cs.length)) := by
  rw [f28_l_b10Long]
  by_cases h : 1048576 < bs.length
  · rw [decide_eq_true (show (bs.length : Int) > 1048576 by omega), decide_eq_true (Or.inl h)]; rfl
  · rw [decide_eq_false (show ¬ (bs.length : Int) > 1048576 by omega), br_f]
    congr 1
    simp [h]; omega
theorem l_at10 (n : Nat) {bs : List Int} (hb : Bytes bs) {i k : Int} (hi : 0 ≤ i) (hi2 : i ≤ 1000000) (hk : 1 ≤ k) : ∃ r, (0 ≤ r ∧ r < k) ∧ f29_l_b10At (n + 1) bs.length (its .u8 bs) i k = some r := by
  rw [f29_l_b10At]
  by_cases h : k ≤ 1
  · rw [decide_eq_true h]; exact ⟨0, by omega, rfl⟩
  rw [decide_eq_false h]
  have hk0 : (!decide (k = 0)) = true := by simp; omega
  by_cases h2 : i < (bs.length : Int)
  · rw [decide_eq_true h2]
    obtain ⟨i, rfl⟩ := Int.eq_ofNat_of_zero_le hi
    have hi : i < bs.length := by omega
    have hr := hb (bs[i]) (List.getElem_mem _)
    simp only [br_f, br_t, in_dec hi, Int.toNat_natCast, okAt_its hi, Bool.and_self, gd_t, iAt_its, hk0]
    rw [show bs.getD i 0 = bs[i] by simp [List.getD, hi], show IntKind.i64.wrap bs[i] = bs[i] by rw [wrap64] <;> omega]
    refine ⟨_, ?_, rfl⟩
    rw [Int.tmod_eq_emod_of_nonneg (by omega)]
    have := Int.emod_nonneg bs[i] (show k ≠ 0 by omega)
    have := Int.emod_lt_of_pos bs[i] (show 0 < k by omega)
    omega
  · rw [decide_eq_false h2]
    simp only [br_f, hk0, gd_t]
    rw [show IntKind.i64.wrap (i * 37) = i * 37 by rw [wrap64] <;> omega, show IntKind.i64.wrap (i * 37 + 11) = i * 37 + 11 by rw [wrap64] <;> omega]
    refine ⟨_, ?_, rfl⟩
    rw [Int.tmod_eq_emod_of_nonneg (by omega)]
    have := Int.emod_nonneg (i * 37 + 11) (show k ≠ 0 by omega)
    have := Int.emod_lt_of_pos (i * 37 + 11) (show 0 < k by omega)
    omega
theorem s_b10plain (n : Nat) {bs : List Int} (hb : Bytes bs) : ∃ x, Plain x ∧ f69_s_B10Plain (n + 5) bs.length (its .u8 bs) = some x := by
  obtain ⟨x, a2, s2, hx, ha2, e2⟩ := s_plain n hb (a := 0) (by omega) (by omega) 0
  rw [f69_s_B10Plain, s_from]
  simp only [bd_s, e2]
  exact ⟨x, hx, rfl⟩

theorem i_in (n : Nat) (a b c : Int) : f93_i_within (n + 1) a b c = some (decide (b ≤ a ∧ a ≤ c)) := by
  rw [f93_i_within]
  by_cases h : b ≤ a <;> simp [br, h]

/-! rounding depends on the value alone -/
theorem log2_scale {n : Nat} (hn : n ≠ 0) (c : Nat) : (n * 2 ^ c).log2 = n.log2 + c := by
  have h1 : 2 ^ (n.log2 + c) ≤ n * 2 ^ c := by
    rw [Nat.pow_add]; exact Nat.mul_le_mul_right _ (Nat.log2_self_le hn)
  have h2 : n * 2 ^ c < 2 ^ (n.log2 + c + 1) := by
    rw [show n.log2 + c + 1 = (n.log2 + 1) + c by omega, Nat.pow_add]
    exact Nat.mul_lt_mul_of_pos_right Nat.lt_log2_self (Nat.two_pow_pos c)
  have hp := Nat.two_pow_pos c
  have hne : n * 2 ^ c ≠ 0 := by
    have : 0 < n * 2 ^ c := Nat.mul_pos (by omega) hp
    omega
  have a1 := (Nat.le_log2 hne).2 h1
  have a2 := (Nat.log2_lt hne).2 h2
  omega
theorem cut_scale (s : Bool) {n : Nat} (hn : n ≠ 0) (c d : Nat) : Ieee.Toward.cut .even s (n * 2 ^ c) (d + c) = Ieee.Toward.cut .even s n d := by
  have hp := Nat.two_pow_pos c
  unfold Ieee.Toward.cut
  simp only [log2_scale hn, Nat.shiftLeft_eq, Nat.one_mul]
  rw [show min (d + c) (n.log2 + c + 2) = min d (n.log2 + 2) + c by omega, Nat.pow_add]
  generalize 2 ^ min d (n.log2 + 2) = g
  rw [Nat.mul_div_mul_right _ _ hp, Nat.mul_mod_mul_right]
  have h1 : decide (g * 2 ^ c < 2 * (n % g * 2 ^ c)) = decide (g < 2 * (n % g)) := by
    rw [decide_eq_decide, ← Nat.mul_assoc]; exact Nat.mul_lt_mul_right hp
  have h2 : (g * 2 ^ c == 2 * (n % g * 2 ^ c)) = (g == 2 * (n % g)) := by
    rw [Bool.eq_iff_iff, beq_iff_eq, beq_iff_eq, ← Nat.mul_assoc]; exact Nat.mul_left_inj (by omega)
  rw [h1, h2]
theorem two_logs {m n : Nat} {e i : Int} (hm : m ≠ 0) (hn : n ≠ 0) (h : mv m e = mv n i) : e + (m.log2 : Int) = i + (n.log2 : Int) := by
  have low : ∀ (m : Nat) (e : Int), m ≠ 0 → p2 (e + (m.log2 : Int)) ≤ mv m e := by
    intro m e hm
    have : 2 ^ m.log2 ≤ m := Nat.log2_self_le hm
    have h := (mv_le (e := e)).2 this
    rwa [mv_pow] at h
  have high : ∀ (m : Nat) (e : Int), mv m e < p2 (e + (m.log2 : Int) + 1) := by
    intro m e
    have : m < 2 ^ (m.log2 + 1) := Nat.lt_log2_self
    have h := (mv_lt (e := e)).2 this
    rw [mv_pow] at h
    rw [show e + (m.log2 : Int) + 1 = e + ((m.log2 + 1 : Nat) : Int) by omega]; exact h
  have a1 := low m e hm
  have a2 := high m e
  have b1 := low n i hn
  have b2 := high n i
  rw [h] at a1 a2
  rcases Int.lt_trichotomy (e + (m.log2 : Int)) (i + (n.log2 : Int)) with c | c | c
  · have := p2_le (show e + (m.log2 : Int) + 1 ≤ i + (n.log2 : Int) by omega); grind
  · exact c
  · have := p2_le (show i + (n.log2 : Int) + 1 ≤ e + (m.log2 : Int) by omega); grind
/-- the same number twice as long, two places apart or more: the same word, places on -/
theorem nearest_shift (k : FloatKind) (s : Bool) {m : Nat} (hm : m ≠ 0) (c : Nat) (e : Int) : k.format.nearest s (m * 2 ^ c) (e - (c : Int)) = k.format.nearest s m e := by
  have hp := Nat.two_pow_pos c
  have hne : m * 2 ^ c ≠ 0 := by
    have : 0 < m * 2 ^ c := Nat.mul_pos (by omega) hp
    omega
  unfold Ieee.Format.nearest
  rw [if_neg hne, if_neg hm]
  simp only [log2_scale hm]
  rw [show e - (c : Int) + ((m.log2 + c : Nat) : Int) - (k.format.fractionBits : Int) = e + (m.log2 : Int) - (k.format.fractionBits : Int) by omega]
  generalize max (e + (m.log2 : Int) - (k.format.fractionBits : Int)) k.format.leastPlace = last
  have hcut : Ieee.Toward.cut .even s ((m * 2 ^ c) <<< (e - (c : Int) - last).toNat) (last - (e - (c : Int))).toNat = Ieee.Toward.cut .even s (m <<< (e - last).toNat) (last - e).toNat := by
    rw [Nat.shiftLeft_eq, Nat.shiftLeft_eq]
    by_cases h : e ≤ last
    · rw [show (e - (c : Int) - last).toNat = 0 by omega, show (e - last).toNat = 0 by omega, Nat.pow_zero, Nat.mul_one, Nat.mul_one, show (last - (e - (c : Int))).toNat = (last - e).toNat + c by omega]
      exact cut_scale s hm c _
    · by_cases h2 : e - (c : Int) ≤ last
      · obtain ⟨a, ha⟩ : ∃ a : Nat, e - last = (a : Int) := ⟨(e - last).toNat, by omega⟩
        have hac : a ≤ c := by omega
        rw [show (e - (c : Int) - last).toNat = 0 by omega, show (e - last).toNat = a by omega, show (last - e).toNat = 0 by omega, show (last - (e - (c : Int))).toNat = 0 + (c - a) by omega, Nat.pow_zero, Nat.mul_one]
        have hm2 : m * 2 ^ a ≠ 0 := by
          have : 0 < m * 2 ^ a := Nat.mul_pos (by omega) (Nat.two_pow_pos a)
          omega
        rw [show m * 2 ^ c = m * 2 ^ a * 2 ^ (c - a) by rw [Nat.mul_assoc, ← Nat.pow_add]; congr 2; omega]
        exact cut_scale s hm2 (c - a) 0
      · rw [show (last - (e - (c : Int))).toNat = 0 by omega, show (last - e).toNat = 0 by omega, Nat.mul_assoc, ← Nat.pow_add, show c + (e - (c : Int) - last).toNat = (e - last).toNat by omega]
  rw [hcut]
/-- one number, one word -/
theorem nearest_same (k : FloatKind) (s : Bool) {m m' : Nat} {e e' : Int} (hm : m ≠ 0) (hm' : m' ≠ 0) (h : mv m e = mv m' e') : k.format.nearest s m e = k.format.nearest s m' e' := by
  rcases Int.le_total e e' with hle | hle
  · have h1 : mv m' e' = mv (m' * 2 ^ (e' - e).toNat) e := by rw [mv_shift]; congr 1; omega
    rw [h1] at h
    have h2 := mv_le.1 (h ▸ Rat.le_refl : mv m e ≤ mv (m' * 2 ^ (e' - e).toNat) e)
    have h3 := mv_le.1 (h ▸ Rat.le_refl : mv (m' * 2 ^ (e' - e).toNat) e ≤ mv m e)
    have hmm : m = m' * 2 ^ (e' - e).toNat := Nat.le_antisymm h2 h3
    have := nearest_shift k s hm' (e' - e).toNat e'
    rw [← hmm, show e' - ((e' - e).toNat : Int) = e by omega] at this
    exact this
  · have h1 : mv m e = mv (m * 2 ^ (e - e').toNat) e' := by rw [mv_shift]; congr 1; omega
    rw [h1] at h
    have h2 := mv_le.1 (h ▸ Rat.le_refl : mv (m * 2 ^ (e - e').toNat) e' ≤ mv m' e')
    have h3 := mv_le.1 (h ▸ Rat.le_refl : mv m' e' ≤ mv (m * 2 ^ (e - e').toNat) e')
    have hmm : m' = m * 2 ^ (e - e').toNat := Nat.le_antisymm h3 h2
    have := nearest_shift k s hm (e - e').toNat e
    rw [← hmm, show e - ((e - e').toNat : Int) = e' by omega] at this
    exact this.symm
theorem read_high {s : Bool} {r : Nat} (h1 : 8388608 ≤ r) (h2 : r < 2139095040) : FloatKind.f32.decode (FloatKind.f32.format.word s r) = .number s (8388608 + r % 8388608) (-149 + ((r / 8388608 - 1 : Nat) : Int)) := by
  have hsw : FloatKind.f32.format.signWeight = 2147483648 := rfl
  have hb : FloatKind.f32.format.binade = 8388608 := by decide
  have hi : FloatKind.f32.format.infRung = 2139095040 := rfl
  have hl : FloatKind.f32.format.leastPlace = -149 := by decide
  have hm : FloatKind.f32.format.word s r % 2147483648 = r ∧ (FloatKind.f32.format.word s r / 2147483648 % 2 == 1) = s := by
    unfold Ieee.Format.word
    rw [hsw]
    cases s
    · simp; omega
    · simp; omega
  show FloatKind.f32.format.read _ = _
  unfold Ieee.Format.read
  simp only [hsw, hb, hi, hl, hm.1, hm.2]
  rw [if_neg (by omega), if_pos h2]
theorem enc_four {s : Bool} {m : Nat} {e : Int} {R : Rat} (hm : m ≠ 0) (h1 : -126 ≤ e + (m.log2 : Int)) (h2 : e + (m.log2 : Int) ≤ 100) (h : Val .f32 (FloatKind.f32.encode (.number s m e)) R) : Val .f32 (FloatKind.f32.encode (.number s m (e + 2))) (4 * R) := by
  have hb : FloatKind.f32.format.binade = 8388608 := by decide
  have hi : FloatKind.f32.format.infRung = 2139095040 := rfl
  have hl : FloatKind.f32.format.leastPlace = -149 := by decide
  have hf : ((FloatKind.f32.format.fractionBits : Nat) : Int) = 23 := rfl
  obtain ⟨K, hK⟩ : ∃ K, K = Ieee.Toward.cut .even s (m <<< (e - (e + (m.log2 : Int) - 23)).toNat) ((e + (m.log2 : Int) - 23) - e).toNat := ⟨_, rfl⟩
  have lo : 2 ^ m.log2 ≤ m := Nat.log2_self_le hm
  have hi2 : m < 2 ^ (m.log2 + 1) := Nat.lt_log2_self
  have hKb : 8388608 ≤ K ∧ K ≤ 16777216 := by
    rw [hK]
    rcases Nat.lt_or_ge m.log2 23 with hc | hc
    · rw [show ((e + (m.log2 : Int) - 23) - e).toNat = 0 by omega, show (e - (e + (m.log2 : Int) - 23)).toNat = 23 - m.log2 by omega, Nat.shiftLeft_eq]
      have g1 : 2 ^ m.log2 * 2 ^ (23 - m.log2) ≤ m * 2 ^ (23 - m.log2) := Nat.mul_le_mul_right _ lo
      have g2 : m * 2 ^ (23 - m.log2) ≤ 2 ^ (m.log2 + 1) * 2 ^ (23 - m.log2) := Nat.mul_le_mul_right _ (Nat.le_of_lt hi2)
      rw [← Nat.pow_add, show m.log2 + (23 - m.log2) = 23 by omega] at g1
      rw [← Nat.pow_add, show m.log2 + 1 + (23 - m.log2) = 24 by omega] at g2
      exact ⟨(cut_bounds s _ 0 8388608).2 (by omega), (cut_bounds s _ 0 16777216).1 (by omega)⟩
    · rw [show ((e + (m.log2 : Int) - 23) - e).toNat = m.log2 - 23 by omega, show (e - (e + (m.log2 : Int) - 23)).toNat = 0 by omega, Nat.shiftLeft_zero]
      have g1 : 8388608 * 2 ^ (m.log2 - 23) = 2 ^ m.log2 := by rw [show (8388608 : Nat) = 2 ^ 23 by decide, ← Nat.pow_add]; congr 1; omega
      have g2 : 16777216 * 2 ^ (m.log2 - 23) = 2 ^ (m.log2 + 1) := by rw [show (16777216 : Nat) = 2 ^ 24 by decide, ← Nat.pow_add]; congr 1; omega
      exact ⟨(cut_bounds s m (m.log2 - 23) 8388608).2 (by omega), (cut_bounds s m (m.log2 - 23) 16777216).1 (by omega)⟩
  have key : ∀ f : Int, -126 ≤ f + (m.log2 : Int) → f + (m.log2 : Int) ≤ 102 → FloatKind.f32.encode (.number s m f) = FloatKind.f32.format.word s ((f + (m.log2 : Int) - 23 - -149).toNat * 8388608 + K) := by
    intro f f1 f2
    show FloatKind.f32.format.nearest s m f = _
    unfold Ieee.Format.nearest
    rw [if_neg hm]
    simp only [hf, hl, hb, hi]
    rw [show max (f + (m.log2 : Int) - 23) (-149) = f + (m.log2 : Int) - 23 by omega, show f - (f + (m.log2 : Int) - 23) = e - (e + (m.log2 : Int) - 23) by omega, show f + (m.log2 : Int) - 23 - f = e + (m.log2 : Int) - 23 - e by omega, ← hK]
    have hle : (f + (m.log2 : Int) - 23 - -149).toNat * 8388608 + K ≤ 2139095040 := by omega
    rw [Nat.min_eq_left hle]
  have k1 := key e h1 (by omega)
  have k2 := key (e + 2) (by omega) (by omega)
  rw [show (e + 2 + (m.log2 : Int) - 23 - -149).toNat = (e + (m.log2 : Int) - 23 - -149).toNat + 2 by omega] at k2
  generalize ha : (e + (m.log2 : Int) - 23 - -149).toNat = a at k1 k2
  have ha2 : a ≤ 226 := by omega
  have r1 := read_high (s := s) (r := a * 8388608 + K) (by omega) (by omega)
  have r2 := read_high (s := s) (r := (a + 2) * 8388608 + K) (by omega) (by omega)
  rw [← k1] at r1
  rw [← k2] at r2
  have v1 := h.inj (read_val r1)
  have v2 := read_val r2
  have e1 : ((a + 2) * 8388608 + K) % 8388608 = (a * 8388608 + K) % 8388608 := by omega
  have e2 : ((a + 2) * 8388608 + K) / 8388608 - 1 = ((a * 8388608 + K) / 8388608 - 1) + 2 := by omega
  rw [e1, e2] at v2
  generalize 8388608 + (a * 8388608 + K) % 8388608 = M at v1 v2
  generalize (a * 8388608 + K) / 8388608 - 1 = E at v1 v2
  have h4 : mv M (-149 + ((E + 2 : Nat) : Int)) = 4 * mv M (-149 + (E : Int)) := by
    have h5 := p2_add (-149 + (E : Int)) 2
    have h6 : p2 2 = 4 := by have := p2_nat 2; rw [show ((2 : Nat) : Int) = 2 from rfl] at this; rw [this]; rfl
    unfold mv
    rw [show -149 + ((E + 2 : Nat) : Int) = -149 + (E : Int) + 2 by omega, h5, h6]; grind
  rw [h4] at v2
  have : Go.Desk.sg s (4 * mv M (-149 + (E : Int))) = 4 * R := by rw [v1]; cases s <;> simp only [sg_true, sg_false] <;> grind
  rwa [this] at v2

def gainW : List Nat := [1029109261, 1029272389, 1029437406, 1029604333, 1029773194, 1029944009, 1030116803, 1030291598, 1030468416, 1030647282, 1030828220, 1031011252, 1031196404, 1031383699, 1031573164, 1031764822, 1031878742, 1031976803, 1032076000, 1032176346, 1032277853, 1032380536, 1032484408, 1032589483, 1032695774, 1032803296, 1032912063, 1033022090, 1033133391, 1033245980, 1033359874, 1033475086, 1033591632, 1033709528, 1033828788, 1033949430, 1034071469, 1034194921, 1034319803, 1034446130, 1034573920, 1034703190, 1034833957, 1034966239, 1035100051, 1035235414, 1035372344, 1035510859, 1035650978, 1035792720, 1035936103, 1036081147, 1036227870, 1036376291, 1036526432, 1036678311, 1036831949, 1036987366, 1037144582, 1037303619, 1037464497, 1037627239, 1037791865, 1037958397, 1038126857, 1038297268, 1038469653, 1038644033, 1038820433, 1038998875, 1039179384, 1039361983, 1039546696, 1039733548, 1039922564, 1040113768, 1040247289, 1040345119, 1040444080, 1040544188, 1040645455, 1040747895, 1040851521, 1040956346, 1041062386, 1041169653, 1041278163, 1041387929, 1041498966, 1041611289, 1041724912, 1041839852, 1041956122, 1042073738, 1042192716, 1042313072, 1042434822, 1042557982, 1042682567, 1042808596, 1042936083, 1043065047, 1043195504, 1043327472, 1043460968, 1043596010, 1043732615, 1043870802, 1044010590, 1044151996, 1044295039, 1044439739, 1044586114, 1044734185, 1044883970, 1045035489, 1045188763, 1045343811, 1045500655, 1045659316, 1045819813, 1045982169, 1046146405, 1046312542, 1046480604, 1046650611, 1046822587, 1046996555, 1047172537, 1047350556, 1047530637, 1047712804, 1047897079, 1048083489, 1048272057, 1048462808, 1048615884, 1048713482, 1048812209, 1048912080, 1049013107, 1049115304, 1049218684, 1049323262, 1049429050, 1049536063, 1049644316, 1049753822, 1049864596, 1049976653, 1050090007, 1050204674, 1050320668, 1050438006, 1050556703, 1050676774, 1050798235, 1050921103, 1051045393, 1051171123, 1051298309, 1051426967, 1051557115, 1051688770, 1051821950, 1051956672, 1052092954, 1052230814, 1052370270, 1052511341, 1052654046, 1052798403, 1052944431, 1053092151, 1053241581, 1053392741, 1053545652, 1053700333, 1053856806, 1054015090, 1054175207, 1054337179, 1054501025, 1054666770, 1054834433, 1055004038, 1055175606, 1055349162, 1055524727, 1055702325, 1055881979, 1056063714, 1056247553, 1056433521, 1056621642, 1056811942, 1056984526, 1057081893, 1057180386, 1057280020, 1057380808, 1057482763, 1057585898, 1057690228, 1057795766, 1057902526, 1058010522, 1058119768, 1058230280, 1058342071, 1058455157, 1058569552, 1058685272, 1058802332, 1058920748, 1059040534, 1059161708, 1059284284, 1059408280, 1059533712, 1059660597, 1059788950, 1059918790, 1060050133, 1060182998, 1060317400, 1060453359, 1060590893, 1060730019, 1060870755, 1061013122, 1061157137, 1061302820, 1061450189, 1061599266, 1061750068, 1061902616, 1062056931, 1062213033, 1062370943, 1062530680, 1062692268, 1062855727, 1063021078, 1063188344, 1063357547, 1063528709, 1063701854, 1063877003, 1064054180, 1064233409, 1064414713, 1064598117, 1064783644, 1064971320, 1065161169, 1065353216, 1065450352, 1065548612, 1065648010, 1065748559, 1065850272, 1065953163, 1066057246, 1066162534, 1066269041, 1066376781, 1066485769, 1066596019, 1066707545, 1066820363, 1066934487, 1067049933, 1067166716, 1067284850, 1067404353, 1067525240, 1067647526, 1067771228, 1067896363, 1068022947, 1068150997, 1068280529, 1068411561, 1068544110, 1068678195, 1068813832, 1068951039, 1069089836, 1069230239, 1069372268, 1069515942, 1069661280, 1069808301, 1069957023, 1070107469, 1070259656, 1070413605, 1070569337, 1070726872, 1070886232, 1071047437, 1071210508, 1071375468, 1071542338, 1071711140, 1071881897, 1072054631, 1072229365, 1072406123, 1072584927, 1072765802, 1072948771, 1073133859, 1073321090, 1073510489, 1073702081, 1073818858, 1073916886, 1074016048, 1074116359, 1074217832, 1074320479, 1074424315, 1074529353, 1074635608, 1074743093, 1074851823, 1074961811, 1075073074, 1075185624, 1075299478, 1075414651, 1075531156, 1075649011, 1075768231, 1075888831, 1076010828, 1076134237, 1076259076, 1076385360, 1076513106, 1076642331, 1076773053, 1076905288, 1077039055, 1077174371, 1077311253, 1077449721, 1077589792, 1077731485, 1077874818, 1078019812, 1078166484, 1078314854, 1078464943, 1078616770, 1078770355, 1078925718, 1079082880, 1079241862, 1079402685, 1079565370, 1079729939, 1079896414, 1080064816, 1080235168, 1080407493, 1080581813, 1080758152, 1080936533, 1081116979, 1081299515, 1081484164, 1081670952, 1081859903, 1082051041, 1082187412, 1082285208, 1082384135, 1082484209, 1082585441, 1082687845, 1082791435, 1082896225, 1083002227, 1083109458, 1083217930, 1083327658, 1083438657, 1083550941, 1083664525, 1083779425, 1083895654, 1084013230, 1084132168, 1084252482, 1084374190, 1084497307, 1084621849, 1084747834, 1084875278, 1085004197, 1085134609, 1085266531, 1085399981, 1085534976, 1085671535, 1085809674, 1085949413, 1086090770, 1086233765, 1086378414, 1086524739, 1086672758, 1086822492, 1086973959, 1087127179, 1087282175, 1087438964, 1087597570, 1087758012, 1087920312, 1088084491, 1088250571, 1088418574, 1088588523, 1088760440, 1088934347, 1089110268, 1089288227, 1089468245, 1089650349, 1089834561, 1090020906, 1090209409, 1090400094, 1090556014, 1090653578, 1090752271, 1090852107, 1090953100, 1091055261, 1091158606, 1091263147, 1091368899, 1091475875, 1091584091, 1091693559, 1091804295, 1091916313, 1092029628, 1092144255, 1092260210, 1092377507, 1092496162, 1092616192, 1092737611, 1092860437, 1092984684, 1093110371, 1093237512, 1093366126, 1093496229, 1093627839, 1093760973, 1093895648, 1094031883, 1094169695, 1094309103, 1094450126, 1094592781, 1094737088, 1094883067, 1095030735, 1095180114, 1095331222, 1095484080, 1095638708, 1095795126, 1095953356, 1096113418, 1096275333, 1096439123, 1096604810, 1096772416, 1096941962, 1097113471, 1097286967, 1097462471, 1097640008, 1097819600, 1098001272, 1098185048, 1098370951, 1098559008, 1098749242, 1098924663, 1099021996, 1099120455, 1099220055, 1099320808, 1099422728, 1099525828, 1099630121, 1099735623, 1099842346, 1099950304, 1100059513, 1100169987, 1100281739]
def gainOkAt (i : Nat) : Bool := match f72_i_GainOf 999 ((i : Int) - 256) with
  | some (w, b) => w == gainW.getD i 0 && b
  | none => false
theorem gain_tab0 : ∀ i : Nat, i < 73 → gainOkAt (i + 0) = true := by decide +kernel
theorem gain_tab1 : ∀ i : Nat, i < 73 → gainOkAt (i + 73) = true := by decide +kernel
theorem gain_tab2 : ∀ i : Nat, i < 73 → gainOkAt (i + 146) = true := by decide +kernel
theorem gain_tab3 : ∀ i : Nat, i < 73 → gainOkAt (i + 219) = true := by decide +kernel
theorem gain_tab4 : ∀ i : Nat, i < 73 → gainOkAt (i + 292) = true := by decide +kernel
theorem gain_tab5 : ∀ i : Nat, i < 73 → gainOkAt (i + 365) = true := by decide +kernel
theorem gain_tab6 : ∀ i : Nat, i < 73 → gainOkAt (i + 438) = true := by decide +kernel
theorem gain_tab (i : Nat) (h : i < 511) : gainOkAt i = true := by
  by_cases h0 : i < 73
  · have := gain_tab0 (i - 0) (by omega)
    rwa [show i - 0 + 0 = i by omega] at this
  by_cases h1 : i < 146
  · have := gain_tab1 (i - 73) (by omega)
    rwa [show i - 73 + 73 = i by omega] at this
  by_cases h2 : i < 219
  · have := gain_tab2 (i - 146) (by omega)
    rwa [show i - 146 + 146 = i by omega] at this
  by_cases h3 : i < 292
  · have := gain_tab3 (i - 219) (by omega)
    rwa [show i - 219 + 219 = i by omega] at this
  by_cases h4 : i < 365
  · have := gain_tab4 (i - 292) (by omega)
    rwa [show i - 292 + 292 = i by omega] at this
  by_cases h5 : i < 438
  · have := gain_tab5 (i - 365) (by omega)
    rwa [show i - 365 + 365 = i by omega] at this
  by_cases h6 : i < 511
  · have := gain_tab6 (i - 438) (by omega)
    rwa [show i - 438 + 438 = i by omega] at this
  omega
theorem i_gain (i : Nat) (h : i < 511) : f72_i_GainOf 999 ((i : Int) - 256) = some (gainW.getD i 0, true) := by
  have := gain_tab i h
  unfold gainOkAt at this
  split at this
  · rename_i w b e
    simp only [Bool.and_eq_true, beq_iff_eq] at this
    rw [e, this.1, this.2]
  · cases this
def gG (w : Nat) : Nat := (w % 8388608 + 8388608) * 2 ^ (w / 8388608 - 122)
def gainG : List Nat := gainW.map gG
def rowOk (g : Nat) : List Nat → List Nat → Bool
  | h :: hs, b :: bs => Nat.ble (g * h * 262144) (b * 268435456 * 262145) && Nat.ble (b * 268435456 * 262143) (g * h * 262144) && rowOk g hs bs
  | [], _ => true
  | _, [] => false
def rowsOk (hs : List Nat) : List Nat → List Nat → Bool
  | [], _ => true
  | g :: gs, bs => rowOk g hs bs && rowsOk hs gs (bs.drop 1)
theorem rows_tab : rowsOk ((gainG.drop 128).take 256) ((gainG.drop 128).take 256) gainG = true := by decide +kernel
theorem row_get : ∀ (hs bs : List Nat) (g j : Nat), rowOk g hs bs = true → j < hs.length → g * hs.getD j 0 * 262144 ≤ bs.getD j 0 * 268435456 * 262145 ∧ bs.getD j 0 * 268435456 * 262143 ≤ g * hs.getD j 0 * 262144
  | [], _, _, _, _, h => by simp at h
  | h :: hs, [], _, _, e, _ => by cases e
  | h :: hs, b :: bs, g, j, e, hj => by
    simp only [rowOk, Bool.and_eq_true, Nat.ble_eq] at e
    cases j with
    | zero => exact e.1
    | succ j => exact row_get hs bs g j e.2 (by simpa using hj)
theorem rows_get (hs : List Nat) : ∀ (gs bs : List Nat) (i : Nat), rowsOk hs gs bs = true → i < gs.length → rowOk (gs.getD i 0) hs (bs.drop i) = true
  | [], _, _, _, h => by simp at h
  | g :: gs, bs, i, e, hi => by
    simp only [rowsOk, Bool.and_eq_true] at e
    cases i with
    | zero => simpa using e.1
    | succ i =>
      have := rows_get hs gs (bs.drop 1) i e.2 (by simpa using hi)
      rw [List.drop_drop, Nat.add_comm 1 i] at this
      simpa using this
theorem gain_len : gainG.length = 511 := by decide +kernel
theorem gains_near (i j : Nat) (hi : i < 256) (hj : j < 256) : gainG.getD (i + 128) 0 * gainG.getD (j + 128) 0 * 262144 ≤ gainG.getD (i + j) 0 * 268435456 * 262145 ∧ gainG.getD (i + j) 0 * 268435456 * 262143 ≤ gainG.getD (i + 128) 0 * gainG.getD (j + 128) 0 * 262144 := by
  have hl : ((gainG.drop 128).take 256).length = 256 := by rw [List.length_take, List.length_drop, gain_len]; rfl
  have h1 := rows_get _ _ _ i rows_tab (by rw [hl]; exact hi)
  have h2 := row_get _ _ _ j h1 (by rw [hl]; exact hj)
  have e : ∀ k, k < 256 → ((gainG.drop 128).take 256).getD k 0 = gainG.getD (k + 128) 0 := fun k hk => by
    rw [List.getD, List.getElem?_take_of_lt hk, List.getElem?_drop, Nat.add_comm 128 k]; rfl
  have e2 : (gainG.drop i).getD j 0 = gainG.getD (i + j) 0 := by rw [List.getD, List.getElem?_drop]; rfl
  rw [e i hi, e j hj, e2] at h2
  exact h2
theorem gainW_ok : gainW.all (fun w => Nat.ble 1023410176 w && Nat.ble w 2139095039) = true := by decide +kernel
theorem gain_form {w : Nat} (h1 : 1023410176 ≤ w) (h2 : w ≤ 2139095039) : ∃ (m : Nat) (e : Int), FloatKind.f32.decode w = .number false m e ∧ 0 < m ∧ m < 16777216 ∧ -28 ≤ e ∧ mv m e = (gG w : Rat) * p2 (-28) := by
  have hw : FloatKind.f32.format.word false w = w := rfl
  have hd := read_high (s := false) (r := w) (by omega) (by omega)
  rw [hw] at hd
  have hg : gG w = (8388608 + w % 8388608) * 2 ^ (w / 8388608 - 122) := by unfold gG; rw [Nat.add_comm (w % 8388608)]
  have hk : (-149 : Int) + ((w / 8388608 - 1 : Nat) : Int) = -28 + ((w / 8388608 - 122 : Nat) : Int) := by omega
  have hv : mv (8388608 + w % 8388608) (-149 + ((w / 8388608 - 1 : Nat) : Int)) = mv (gG w) (-28) := by rw [hg, mv_shift, hk]
  exact ⟨_, _, hd, by omega, by omega, by omega, hv⟩
theorem gainW_form (i : Nat) (h : i < 511) : ∃ (m : Nat) (e : Int), FloatKind.f32.decode (gainW.getD i 0) = .number false m e ∧ 0 < m ∧ m < 16777216 ∧ -28 ≤ e ∧ mv m e = (gainG.getD i 0 : Rat) * p2 (-28) := by
  have hl : gainW.length = 511 := by decide +kernel
  have hi : i < gainW.length := by rw [hl]; exact h
  have hm : gainW.getD i 0 = gainW[i] := by simp [List.getD, hi]
  have h0 := gainW_ok
  rw [List.all_eq_true] at h0
  have h1 := h0 _ (List.getElem_mem hi)
  simp only [Bool.and_eq_true, Nat.ble_eq] at h1
  have e : gainG.getD i 0 = gG (gainW.getD i 0) := by simp [gainG, List.getD, hi]
  rw [e]
  rw [hm]
  exact gain_form h1.1 h1.2
def gapM (a b : Nat) : Nat := if flt .f64 a b then fsub .f64 b a else fsub .f64 a b
theorem gap_small {x : Nat} {v : Rat} (hx : Val .f64 x v) (h1 : v * 262144 ≤ 262145) (h2 : 262143 ≤ v * 262144) : fgt .f64 (gapM x 4607182418800017408) 4532020583610935537 = false := by
  have h18 : p2 (-18) * 262144 = 1 := by
    have : p2 (-18) * p2 18 = 1 := by rw [← p2_add]; exact p2_zero
    rwa [show p2 18 = 262144 by rw [show (18 : Int) = ((18 : Nat) : Int) from rfl, p2_nat]; rfl] at this
  have hp := p2_pos (-18)
  have hR0 : Rep0 .f64 (p2 (-18)) := rep_p2 .f64 (by decide)
  have htop : p2 (-18) < p2 (topE .f64) := p2_lt (by decide)
  have key : ∀ y R d, Val .f64 y R → Near .f64 d R → d ≤ p2 (-18) → fgt .f64 y 4532020583610935537 = false := by
    intro y R d hy hn hd
    have hR := (hn _ hR0.rep).1 hd
    have ht : Val .f64 4526117625507348480 (p2 (-18)) := by
      have := read_val (k := .f64) (x := 4526117625507348480) (s := false) (m := 4503599627370496) (e := -70) (by decide)
      rw [sg_false, show (4503599627370496 : Nat) = 2 ^ 52 from rfl, mv_pow] at this
      exact this
    have hle := (fle_val hy ht).2 hR
    have hc : fle .f64 4526117625507348480 4532020583610935537 = true := by decide
    rw [fle_key] at hle hc
    rw [fgt_key]
    simp only [Bool.and_eq_true, decide_eq_true_eq] at hle hc
    have : ¬ key .f64 4532020583610935537 < key .f64 y := by omega
    simp [this]
  unfold gapM
  by_cases hlt : v < 1
  · rw [(flt_val hx val_one64).2 hlt, if_pos rfl]
    obtain ⟨R, q1, q2⟩ := sub_val val_one64 hx hR0 htop (by grind) (by grind)
    exact key _ R _ q1 q2 (by grind)
  · have : flt .f64 x 4607182418800017408 = false := by
      rw [Bool.eq_false_iff]
      intro h
      exact hlt ((flt_val hx val_one64).1 h)
    rw [this, if_neg (by simp)]
    obtain ⟨R, q1, q2⟩ := sub_val hx val_one64 hR0 htop (by grind) (by grind)
    exact key _ R _ q1 q2 (by grind)
theorem ratio_small (i j : Nat) (hi : i < 256) (hj : j < 256) : fgt .f64 (gapM (fdiv .f64 (fmul .f64 (wide (gainW.getD (i + 128) 0)) (wide (gainW.getD (j + 128) 0))) (wide (gainW.getD (i + j) 0))) 4607182418800017408) 4532020583610935537 = false := by
  obtain ⟨m1, e1, d1, a1, b1, c1, v1⟩ := gainW_form (i + 128) (by omega)
  obtain ⟨m2, e2, d2, a2, b2, c2, v2⟩ := gainW_form (j + 128) (by omega)
  obtain ⟨m3, e3, d3, a3, b3, c3, v3⟩ := gainW_form (i + j) (by omega)
  obtain ⟨n1, n2⟩ := gains_near i j hi hj
  generalize gainG.getD (i + 128) 0 = G at n1 n2 v1
  generalize gainG.getD (j + 128) 0 = H at n1 n2 v2
  generalize gainG.getD (i + j) 0 = B at n1 n2 v3
  have x1 := wide_val (read_val d1)
  have x2 := wide_val (read_val d2)
  have x3 := wide_val (read_val d3)
  simp only [sg_false] at x1 x2 x3
  have f1 := single_finite d1
  have f2 := single_finite d2
  have hprod : mv m1 e1 * mv m2 e2 = mv (m1 * m2) (e1 + e2) := (mv_mul _ _ _ _).symm
  have hmm : m1 * m2 ≤ 2 * FloatKind.f64.format.binade := by
    have : m1 * m2 ≤ 16777216 * 16777216 := Nat.mul_le_mul (by omega) (by omega)
    have : 16777216 * 16777216 ≤ 2 * FloatKind.f64.format.binade := by decide
    omega
  have hlp : FloatKind.f64.format.leastPlace = -1074 := by decide
  have hR0 : Rep0 .f64 (mv m1 e1 * mv m2 e2) := ⟨m1 * m2, e1 + e2, hmm, by omega, hprod⟩
  have htop : mv m1 e1 * mv m2 e2 < p2 (topE .f64) := by
    rw [hprod]
    have q := (mv_lt (m := m1 * m2) (n := 2 ^ 54) (e := e1 + e2)).2 (by
      have : 2 * FloatKind.f64.format.binade < 2 ^ 54 := by decide
      omega)
    rw [mv_pow] at q
    have q2 := p2_le (show e1 + e2 + ((54 : Nat) : Int) ≤ topE .f64 by show _ ≤ 1024; omega)
    grind
  have hpos : 0 ≤ mv m1 e1 * mv m2 e2 := by rw [hprod]; exact mv_nonneg _ _
  obtain ⟨R, r1, r2⟩ := mul_val x1 x2 hR0 htop (Rat.le_refl) (by grind)
  have r3 := r1.near_eq r2 hR0.rep
  have hB : 0 < mv m3 e3 := by
    have := (mv_lt (m := 0) (n := m3) (e := e3)).2 a3
    rwa [mv_zero] at this
  have h28 : p2 (-28) * 268435456 = 1 := by
    have : p2 (-28) * p2 28 = 1 := by rw [← p2_add]; exact p2_zero
    rwa [show p2 28 = 268435456 by rw [show (28 : Int) = ((28 : Nat) : Int) from rfl, p2_nat]; rfl] at this
  have hp28 := p2_pos (-28)
  have N1 : ((G * H * 262144 : Nat) : Rat) ≤ ((B * 268435456 * 262145 : Nat) : Rat) := by exact_mod_cast n1
  have N2 : ((B * 268435456 * 262143 : Nat) : Rat) ≤ ((G * H * 262144 : Nat) : Rat) := by exact_mod_cast n2
  simp only [Rat.natCast_mul] at N1 N2
  have N1 : (G : Rat) * (H : Rat) * 262144 ≤ (B : Rat) * 268435456 * 262145 := N1
  have N2 : (B : Rat) * 268435456 * 262143 ≤ (G : Rat) * (H : Rat) * 262144 := N2
  generalize p2 (-28) = c at h28 hp28 v1 v2 v3
  have hcc : 0 ≤ c * c := Rat.mul_nonneg (Rat.le_of_lt hp28) (Rat.le_of_lt hp28)
  have M1 := Rat.mul_le_mul_of_nonneg_right N1 hcc
  have M2 := Rat.mul_le_mul_of_nonneg_right N2 hcc
  have E1 : (G : Rat) * H * 262144 * (c * c) = mv m1 e1 * mv m2 e2 * 262144 := by rw [v1, v2]; grind
  have E2 : (B : Rat) * 268435456 * 262145 * (c * c) = 262145 * mv m3 e3 := by
    rw [v3]
    have : (B : Rat) * 268435456 * 262145 * (c * c) = 262145 * (B * c) * (c * 268435456) := by grind
    rw [this, h28, Rat.mul_one]
  have E3 : (B : Rat) * 268435456 * 262143 * (c * c) = 262143 * mv m3 e3 := by
    rw [v3]
    have : (B : Rat) * 268435456 * 262143 * (c * c) = 262143 * (B * c) * (c * 268435456) := by grind
    rw [this, h28, Rat.mul_one]
  rw [E1, E2] at M1
  rw [E1, E3] at M2
  generalize mv m1 e1 * mv m2 e2 = num at *
  generalize mv m3 e3 = den at *
  have hcan : num / den * den = num := Rat.div_mul_cancel (by grind)
  have q1 : num / den * 262144 ≤ 262145 := by
    by_cases h : 262145 < num / den * 262144
    · have := (Rat.mul_lt_mul_right hB).2 h
      grind
    · exact Rat.not_lt.1 h
  have q2 : 262143 ≤ num / den * 262144 := by
    by_cases h : num / den * 262144 < 262143
    · have := (Rat.mul_lt_mul_right hB).2 h
      grind
    · exact Rat.not_lt.1 h
  have h18 : p2 (-18) * 262144 = 1 := by
    have : p2 (-18) * p2 18 = 1 := by rw [← p2_add]; exact p2_zero
    rwa [show p2 18 = 262144 by rw [show (18 : Int) = ((18 : Nat) : Int) from rfl, p2_nat]; rfl] at this
  have B2 : Rep0 .f64 (2 : Rat) := by
    have := rep_p2 .f64 (e := 1) (by decide)
    rwa [p2_one] at this
  obtain ⟨S, s1, s2⟩ := div_val r3 x3 (by grind) B2 (by have := p2_lt (show (1 : Int) < topE .f64 by decide); rwa [p2_one] at this) (by grind) (by grind)
  have L1 : Rep .f64 ((262143 : Int) * p2 (-18)) := rep_int (by decide) (by decide)
  have L2 : Rep .f64 ((262145 : Int) * p2 (-18)) := rep_int (by decide) (by decide)
  have b1 := (s2 _ L1).2 (by show (262143 : Rat) * p2 (-18) ≤ num / den; grind)
  have b2 := (s2 _ L2).1 (by show num / den ≤ (262145 : Rat) * p2 (-18); grind)
  have b1 : (262143 : Rat) * p2 (-18) ≤ S := b1
  have b2 : S ≤ (262145 : Rat) * p2 (-18) := b2
  exact gap_small s1 (by grind) (by grind)

def sineW (x : Nat) : Option Nat := match f70_i_SineTurns 999 x with
  | some y => some (wide y)
  | none => none
def sineOkA (x : Nat) : Bool := match sineW x, sineW (fadd .f32 x 1048576000) with
  | some a, some b => !fgt .f64 a 4607182418800017408 && !flt .f64 a 13830554455654793216 && !fgt .f64 (gapM (fadd .f64 (fmul .f64 a a) (fmul .f64 b b)) 4607182418800017408) 4547007122018943789
  | _, _ => false
def sineOkB (x : Nat) : Bool := match sineW x, sineW (fadd .f32 x 1065353216), sineW (negF .f32 x) with
  | some a, some c, some d => !fgt .f64 (gapM a c) 4547007122018943789 && !fgt .f64 (gapM a (negF .f64 d)) 4547007122018943789
  | _, _, _ => false
def sineOk (x : Nat) : Bool := sineOkA x && sineOkB x
def plainAt (k : Nat) : Nat := if k < 129 then fdiv .f32 (FloatKind.f32.nearest ((k : Int) - 64)) 1088421888 else fdiv .f32 (FloatKind.f32.nearest (((k - 129 : Nat) : Int) - 64)) 1098907648
theorem sine_tab0 : ∀ k : Nat, k < 13 → sineOk (plainAt (k + 0)) = true := by decide +kernel
theorem sine_tab1 : ∀ k : Nat, k < 13 → sineOk (plainAt (k + 13)) = true := by decide +kernel
theorem sine_tab2 : ∀ k : Nat, k < 13 → sineOk (plainAt (k + 26)) = true := by decide +kernel
theorem sine_tab3 : ∀ k : Nat, k < 13 → sineOk (plainAt (k + 39)) = true := by decide +kernel
theorem sine_tab4 : ∀ k : Nat, k < 13 → sineOk (plainAt (k + 52)) = true := by decide +kernel
theorem sine_tab5 : ∀ k : Nat, k < 13 → sineOk (plainAt (k + 65)) = true := by decide +kernel
theorem sine_tab6 : ∀ k : Nat, k < 13 → sineOk (plainAt (k + 78)) = true := by decide +kernel
theorem sine_tab7 : ∀ k : Nat, k < 13 → sineOk (plainAt (k + 91)) = true := by decide +kernel
theorem sine_tab8 : ∀ k : Nat, k < 13 → sineOk (plainAt (k + 104)) = true := by decide +kernel
theorem sine_tab9 : ∀ k : Nat, k < 13 → sineOk (plainAt (k + 117)) = true := by decide +kernel
theorem sine_tab10 : ∀ k : Nat, k < 13 → sineOk (plainAt (k + 130)) = true := by decide +kernel
theorem sine_tab11 : ∀ k : Nat, k < 13 → sineOk (plainAt (k + 143)) = true := by decide +kernel
theorem sine_tab12 : ∀ k : Nat, k < 13 → sineOk (plainAt (k + 156)) = true := by decide +kernel
theorem sine_tab13 : ∀ k : Nat, k < 13 → sineOk (plainAt (k + 169)) = true := by decide +kernel
theorem sine_tab14 : ∀ k : Nat, k < 13 → sineOk (plainAt (k + 182)) = true := by decide +kernel
theorem sine_tab15 : ∀ k : Nat, k < 13 → sineOk (plainAt (k + 195)) = true := by decide +kernel
theorem sine_tab16 : ∀ k : Nat, k < 13 → sineOk (plainAt (k + 208)) = true := by decide +kernel
theorem sine_tab17 : ∀ k : Nat, k < 13 → sineOk (plainAt (k + 221)) = true := by decide +kernel
theorem sine_tab18 : ∀ k : Nat, k < 13 → sineOk (plainAt (k + 234)) = true := by decide +kernel
theorem sine_tab19 : ∀ k : Nat, k < 11 → sineOk (plainAt (k + 247)) = true := by decide +kernel
theorem sine_all (i : Nat) (h : i < 258) : sineOk (plainAt i) = true := by
  by_cases h0 : i < 13
  · have := sine_tab0 (i - 0) (by omega)
    rwa [show i - 0 + 0 = i by omega] at this
  by_cases h1 : i < 26
  · have := sine_tab1 (i - 13) (by omega)
    rwa [show i - 13 + 13 = i by omega] at this
  by_cases h2 : i < 39
  · have := sine_tab2 (i - 26) (by omega)
    rwa [show i - 26 + 26 = i by omega] at this
  by_cases h3 : i < 52
  · have := sine_tab3 (i - 39) (by omega)
    rwa [show i - 39 + 39 = i by omega] at this
  by_cases h4 : i < 65
  · have := sine_tab4 (i - 52) (by omega)
    rwa [show i - 52 + 52 = i by omega] at this
  by_cases h5 : i < 78
  · have := sine_tab5 (i - 65) (by omega)
    rwa [show i - 65 + 65 = i by omega] at this
  by_cases h6 : i < 91
  · have := sine_tab6 (i - 78) (by omega)
    rwa [show i - 78 + 78 = i by omega] at this
  by_cases h7 : i < 104
  · have := sine_tab7 (i - 91) (by omega)
    rwa [show i - 91 + 91 = i by omega] at this
  by_cases h8 : i < 117
  · have := sine_tab8 (i - 104) (by omega)
    rwa [show i - 104 + 104 = i by omega] at this
  by_cases h9 : i < 130
  · have := sine_tab9 (i - 117) (by omega)
    rwa [show i - 117 + 117 = i by omega] at this
  by_cases h10 : i < 143
  · have := sine_tab10 (i - 130) (by omega)
    rwa [show i - 130 + 130 = i by omega] at this
  by_cases h11 : i < 156
  · have := sine_tab11 (i - 143) (by omega)
    rwa [show i - 143 + 143 = i by omega] at this
  by_cases h12 : i < 169
  · have := sine_tab12 (i - 156) (by omega)
    rwa [show i - 156 + 156 = i by omega] at this
  by_cases h13 : i < 182
  · have := sine_tab13 (i - 169) (by omega)
    rwa [show i - 169 + 169 = i by omega] at this
  by_cases h14 : i < 195
  · have := sine_tab14 (i - 182) (by omega)
    rwa [show i - 182 + 182 = i by omega] at this
  by_cases h15 : i < 208
  · have := sine_tab15 (i - 195) (by omega)
    rwa [show i - 195 + 195 = i by omega] at this
  by_cases h16 : i < 221
  · have := sine_tab16 (i - 208) (by omega)
    rwa [show i - 208 + 208 = i by omega] at this
  by_cases h17 : i < 234
  · have := sine_tab17 (i - 221) (by omega)
    rwa [show i - 221 + 221 = i by omega] at this
  by_cases h18 : i < 247
  · have := sine_tab18 (i - 234) (by omega)
    rwa [show i - 234 + 234 = i by omega] at this
  by_cases h19 : i < 258
  · have := sine_tab19 (i - 247) (by omega)
    rwa [show i - 247 + 247 = i by omega] at this
  omega
theorem sine_plain {x : Nat} (h : Plain x) : sineOk x = true := by
  obtain ⟨m, hm, e | e⟩ := h
  · have := sine_all (m + 64).toNat (by omega)
    unfold plainAt at this
    rw [if_pos (by omega), show (((m + 64).toNat : Nat) : Int) - 64 = m by omega, ← e] at this
    exact this
  · have := sine_all ((m + 64).toNat + 129) (by omega)
    unfold plainAt at this
    rw [if_neg (by omega), show ((((m + 64).toNat + 129 - 129 : Nat)) : Int) - 64 = m by omega, ← e] at this
    exact this
def lastOk : Bool := match f73_i_ExpNumber 999 1065353216 with
  | some e => match f74_i_LogNumber 999 e with
    | some l => flt .f64 (gapM (wide l) 4607182418800017408) 4532020583610935537 && (f75_i_RootNumber 999 1091567616 == some 1077936128) && (f76_i_TanhNumber 999 1106247680 == some 1065353216)
    | none => false
  | none => false
theorem last_tab : lastOk = true := by decide +kernel
theorem l_gap (n x y : Nat) : f71_l_b10Gap (n + 1) x y = some (gapM x y) := by
  rw [f71_l_b10Gap]
  unfold gapM
  cases flt .f64 x y <;> rfl
theorem exact_ (cs : List Int) (hc : ∀ b ∈ cs, GoodI .u8 b) (lc : cs.length ≤ maxLen) (ms : List Int) (hm : ∀ b ∈ ms, GoodI .u8 b) (lm : ms.length ≤ maxLen) : ∃ n, f12_l_FnSines n cs.length (its .u8 cs) ms.length (its .u8 ms) = some true := by
  refine ⟨1000, ?_⟩
  have e0 := l_long10 998 cs ms
  have e0 : f28_l_b10Long 999 _ _ _ _ = _ := e0
  show f12_l_FnSines (999 + 1) cs.length (its .u8 cs) ms.length (its .u8 ms) = some true
  rw [f12_l_FnSines, e0]
  cases hlong : decide (1048576 < cs.length ∨ 1048576 < ms.length)
  case true => rfl
  obtain ⟨x, hx, e1⟩ := s_b10plain 994 (bytes_of hc)
  have e1 : f69_s_B10Plain 999 _ _ = _ := e1
  obtain ⟨p, hp, e2⟩ := l_at10 998 (bytes_of hm) (i := 0) (k := 256) (by omega) (by omega) (by omega)
  have e2 : f29_l_b10At 999 _ _ _ _ = _ := e2
  obtain ⟨q, hq, e3⟩ := l_at10 998 (bytes_of hm) (i := 1) (k := 256) (by omega) (by omega) (by omega)
  have e3 : f29_l_b10At 999 _ _ _ _ = _ := e3
  obtain ⟨p, rfl⟩ := Int.eq_ofNat_of_zero_le hp.1
  obtain ⟨q, rfl⟩ := Int.eq_ofNat_of_zero_le hq.1
  have hs := sine_plain hx
  unfold sineOk sineOkA sineOkB sineW at hs
  cases ha : f70_i_SineTurns 999 x with
  | none => rw [ha] at hs; simp at hs
  | some a =>
  cases hb : f70_i_SineTurns 999 (fadd .f32 x 1048576000) with
  | none => rw [ha, hb] at hs; simp at hs
  | some b =>
  cases hc' : f70_i_SineTurns 999 (fadd .f32 x 1065353216) with
  | none => rw [ha, hb, hc'] at hs; simp at hs
  | some c =>
  cases hd : f70_i_SineTurns 999 (negF .f32 x) with
  | none => rw [ha, hb, hc', hd] at hs; simp at hs
  | some d =>
  rw [ha, hb, hc', hd] at hs
  simp only [Bool.and_eq_true, Bool.not_eq_true'] at hs
  obtain ⟨⟨⟨s1, s2⟩, s3⟩, s4, s5⟩ := hs
  have w1 : IntKind.i64.wrap ((p : Int) - 128) = ((p + 128 : Nat) : Int) - 256 := by rw [wrap64] <;> omega
  have w2 : IntKind.i64.wrap ((q : Int) - 128) = ((q + 128 : Nat) : Int) - 256 := by rw [wrap64] <;> omega
  have w3 : IntKind.i64.wrap (((p + 128 : Nat) : Int) - 256 + (((q + 128 : Nat) : Int) - 256)) = ((p + q : Nat) : Int) - 256 := by rw [wrap64] <;> omega
  have g1 := i_gain (p + 128) (by omega)
  have g2 := i_gain (q + 128) (by omega)
  have g3 := i_gain (p + q) (by omega)
  have g4 := i_gain 256 (by omega)
  have u1 : (gainW.getD 256 0) = 1065353216 := by decide +kernel
  have g4 : f72_i_GainOf 999 0 = some (1065353216, true) := by rw [← u1]; exact g4
  have u2 : fne .f32 1065353216 1065353216 = false := by decide
  have r := ratio_small p q (by omega) (by omega)
  have gap := fun x y => l_gap 998 x y
  have gap : ∀ x y, f71_l_b10Gap 999 x y = some (gapM x y) := gap
  have hl := last_tab
  unfold lastOk at hl
  cases he : f73_i_ExpNumber 999 1065353216 with
  | none => rw [he] at hl; simp at hl
  | some e =>
  rw [he] at hl
  simp only at hl
  cases hlg : f74_i_LogNumber 999 e with
  | none => rw [hlg] at hl; simp at hl
  | some l =>
  rw [hlg] at hl
  simp only [Bool.and_eq_true, beq_iff_eq] at hl
  obtain ⟨⟨l1, l2⟩, l3⟩ := hl
  have f1 : feq .f32 1077936128 1077936128 = true := by decide
  have f2 : feq .f32 1065353216 1065353216 = true := by decide
  simp only [br_f, bd_s, e1, ha, fltToFlt_wide, hb, hc', hd, s1, s2, gap, s3, s4, s5, e2, w1, e3, w2, g1, g2, w3, g3, g4, br_not, br_t, u2, r, he, hlg, l1, l2, l3, f1, f2]
theorem law12 : ∀ args, LawArgs E Try.f12.params.toList args → ∃ N os, evalFn E N 12 args = some ⟨[⟨false, [.leaf], [.bool true]⟩], os⟩ := by
  intro args h0
  have hp : Try.f12.params.toList = [22, 22] := by kernel_rfl
  rw [hp] at h0
  obtain ⟨ts0, r0, rfl, hw0, h1⟩ := h0.cons_inv (d := ⟨false, 1, 24, [.sl .own [.leaf]], [.lst 0 []], .slc 5⟩) (by kernel_rfl)
  obtain ⟨n0, cs0, rfl, gl0, hs0⟩ := hw0.slc_inv (e := 5) (d := ⟨false, 1, 24, [.sl .own [.leaf]], [.lst 0 []], .slc 5⟩) (by kernel_rfl) rfl
  obtain ⟨a0, rfl, rfl, g0⟩ := hs0.ints (k := .u8) (d := ⟨false, 1, 1, [.leaf], [.int .u8 0], .int .u8⟩) (by kernel_rfl) rfl
  obtain ⟨ts1, r1, rfl, hw1, h2⟩ := h1.cons_inv (d := ⟨false, 1, 24, [.sl .own [.leaf]], [.lst 0 []], .slc 5⟩) (by kernel_rfl)
  obtain ⟨n1, cs1, rfl, gl1, hs1⟩ := hw1.slc_inv (e := 5) (d := ⟨false, 1, 24, [.sl .own [.leaf]], [.lst 0 []], .slc 5⟩) (by kernel_rfl) rfl
  obtain ⟨a1, rfl, rfl, g1⟩ := hs1.ints (k := .u8) (d := ⟨false, 1, 1, [.leaf], [.int .u8 0], .int .u8⟩) (by kernel_rfl) rfl
  obtain rfl := h2.nil_inv
  obtain ⟨N, hN⟩ := exact_ a0 g0 gl0 a1 g1 gl1
  exact ⟨N, _, f12_l_FnSines.ok N (a0.length, its .u8 a0, a1.length, its .u8 a1) true hN⟩


end Go.Proofs.Ytjkhhalnlodinaa.D
end
section
/- FnSines holds: for every input the law returns true, and its arguments read as before. -/
namespace Go.Proofs.Ytjkhhalnlodinaa.fnSines
open Go Go.ChangeShapes Go.WideShapes Go.ChangeAt Go.RowKit Go.Desk
set_option linter.unusedVariables false
theorem own : ownKnob Try.prog.godebug = none := by kernel_rfl
theorem laidOut : laidOutB Try.prog = true := by kernel_rfl
set_option maxRecDepth 100000 in
theorem lifted (os : Os) (started : os.Started) (H : Type) (enc : TypeId × Value → H) :
    ReturnsInHanded {} Try.checked os 12 .any (Rows.fnSinesSpec.pre6 enc Try.prog Try.f12 Rows.fnSinesRow.domain false) (Rows.fnSinesSpec.post enc Try.prog Try.f12 false true false false) := by
  refine returnsInHanded_of_change (C := Try.checked) own started (by kernel_rfl) Try.func12
    (ChangeSpec.witness6 (enc := enc) (C := Try.checked) false ⟨#[], #[.slice none 0 0, .slice none 0 0], []⟩ 8 (by kernel_rfl) (by kernel_rfl) (by kernel_rfl) (by kernel_rfl)) ?_
  intro W base args ds gs before hval hW hcnd _
  exact law_contract (c := D.c12) Try.checked.mixed D.tysOk D.fnOk Try.func12 (by kernel_rfl) (by kernel_rfl) (by kernel_rfl) Try.underlying4 rfl
    (fun ds h => by
      rw [show Try.f12.params.toList.length = 2 by kernel_rfl] at h
      match ds, h with
      | [_, _], _ => rfl)
    laidOut (N := 8) (by kernel_rfl) (by kernel_rfl) D.law12 hval hW
theorem over : Rows.fnSinesRow.holds Try.pinned (OpenSpec.ofChange Rows.fnSinesSpec) :=
  OpenClaim.holds_of_wide 12 Try.f12 rfl rfl rfl rfl rfl rfl rfl ⟨rfl, rfl, rfl, rfl, rfl⟩ rfl rfl rfl rfl rfl (by kernel_rfl) Try.func12 (by kernel_rfl)
    (of_decide_eq_true (by kernel_rfl)) (by unfold Func.isWrapper; first | (rw [if_pos (by decide +kernel)]; kernel_rfl) | (rw [if_neg (by decide +kernel)]; exact ⟨rfl, rfl⟩))
    (fun os started H enc _ => lifted os started H enc)
theorem proved : Rows.FnSinesSaid := over
#print axioms proved
end Go.Proofs.Ytjkhhalnlodinaa.fnSines
namespace Go.Proofs.Ytjkhhalnlodinaa
/-- The row, under a short name, for the claim. -/
theorem fnSines_holds : Rows.FnSinesSaid := fnSines.proved
end Go.Proofs.Ytjkhhalnlodinaa
end
