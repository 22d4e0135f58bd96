/- FnExactCompileSession holds: for every input the law returns true, and its arguments read as before. -/
import Derived.Test.YtdobhipbgpiceaaChecked
import Derived.Shelf.SlicesE.Kit
import Derived.Shelf.RegionOpenPlain
import Derived.WalkKit
import Derived.Deep.LoopGhost
import Derived.Deep.RegionLaw
import Derived.Deep.MidRow
import Derived.Lib.Walk
import Derived.Sort.WalkB12
import Derived.Lib.SliceRun
import Derived.Lib.SlicesDelete
import Derived.Lib.SlicesMore
import Derived.Lib.SlicesCompact
import Derived.KernelRfl
import Derived.Test.YtdobhipbgpiceaaRows
import Derived.ProofKit
import Derived.OpenShut
import Derived.ShutString
import Derived.ChangeOld
import Derived.Below
import Derived.SizedLaws
import Derived.Test.YtdobhipbgpiceaaKernD
import Derived.Test.YtdobhipbgpiceaaM11a
set_option linter.all false
set_option linter.unusedVariables false
noncomputable section
namespace Go.Proofs.Ytdobhipbgpiceaa.D
open Go Go.Desk
def f183.l0 (n:Nat):Nat→Nat→List T→Nat→List T→Int→Option ((Bool) ⊕ (Unit))
 | 0,_,_,_,_,_=>none
 | m+1,n1,l2,n3,l4,i5 =>
   br (decide (i5<(n1:Int))) (
    gd ((decide ((0≤i5)∧(i5<(n1:Int))))&&(okAt [(CK.flt .f32)] l2 (Int.toNat i5))) (
    bd ((fltToFlt .f32 (fAt l2 (Int.toNat i5)) .f64)) fun y6 =>
    gd ((decide ((0≤i5)∧(i5<(n3:Int))))&&(okAt [(CK.flt .f32)] l4 (Int.toNat i5))) (
    bd ((fltToFlt .f32 (fAt l4 (Int.toNat i5)) .f64)) fun y7 =>
    bd (f185 n y6 y7) fun r8 =>
    let b9:=r8
    br (!b9) (
     some (Sum.inl false)) (
     f183.l0 n m n1 l2 n3 l4 (IntKind.i64.wrap (i5+(1:Int))))))) (
    some (Sum.inr ()))
def f183:Nat→Nat→List T→Nat→List T→Option (Bool)
 | 0,_,_,_,_=>none
 | n+1,n1,l2,n3,l4 =>
   br ((n1:Int) != (n3:Int)) (
    some false) (
    bd (f183.l0 n n n1 l2 n3 l4 (0:Int)) fun r5 =>
    sm r5 (fun u6 =>
     let b7:=u6
     some b7) (fun u8 =>
     some true))
def f183.l0.P:AS:=⟨[(0,qS32),(1,qS32),(5,qS34)],0⟩
def f183.l0.A:Alt ((Bool) ⊕ (Unit)):=.or (.one .ret ⟨[(4,qS35)],0⟩ sg_b) (.one (.exit 0) ⟨[(4,.dead)],0⟩ sg)
def f183.l0.F (n m:Nat) (v:Nat × List T × Nat × List T × Int):=f183.l0 n m v.1 v.2.1 v.2.2.1 v.2.2.2.1 v.2.2.2.2
def f183.l0.W (n:Nat):LpW:=.of 64 f183.l0.P sg_lli f183.l0.A (f183.l0.F n n)
def f183.P:List Arg:=[qA16,qA16]
def f183.A:RAlt (Bool):=.one ⟨[qV14],[none,none]⟩ sg_b
def f183.F (n:Nat) (v:Nat × List T × Nat × List T):=f183 n v.1 v.2.1 v.2.2.1 v.2.2.2
def f183.O (n:Nat):Orc:=orcOf (E:=E) [f185.w] [f183.l0.W n] n
theorem f183.l0.ok:∀ n,LpS 183 c183 0 n (f183.O n):=lpS f183.l0.P sg_lli f183.l0.A f183.l0.F
theorem f183.ok:FnS 183 f183.P sg_ll f183.A f183.F:=fnS c183 f183.O [loopAt c183 0] (fun n=>(.cons (f183.l0.ok n) .nil))
def f183.w:FnW E:=fnW 183 f183.P sg_ll f183.A f183.F f183.ok
def f154:Nat→Int→Int→Nat→List T→Int→Int→Nat→List T→Option (Bool)
 | 0,_,_,_,_,_,_,_,_=>none
 | n+1,i1,i2,n3,l4,i5,i6,n7,l8 =>
   br (i1 != i5) (
    some false) (
    br (i2 != i6) (
     some false) (
     bd (f183 n n3 l4 n7 l8) fun r9 =>
     let b10:=r9
     br (!b10) (
      some false) (
      some true)))
def sg_iiliil:Sig (Int × Int × Nat × List T × Int × Int × Nat × List T) where
 pk:=fun v=>[.int v.1,.int v.2.1,.lst v.2.2.1 v.2.2.2.1,.int v.2.2.2.2.1,.int v.2.2.2.2.2.1,.lst v.2.2.2.2.2.2.1 v.2.2.2.2.2.2.2]
 up:=fun ls=>match ls with
  | [.int a0,.int a1,.lst a2 a3,.int a4,.int a5,.lst a6 a7]=>some (a0,a1,a2,a3,a4,a5,a6,a7)
  | _=>none
 ok:=by intro _ _ h;split at h <;>cases h;rfl
def f154.P:List Arg:=[qA19,qA19]
def f154.A:RAlt (Bool):=.one ⟨[qV14],[none,none]⟩ sg_b
def f154.F (n:Nat) (v:Int × Int × Nat × List T × Int × Int × Nat × List T):=f154 n v.1 v.2.1 v.2.2.1 v.2.2.2.1 v.2.2.2.2.1 v.2.2.2.2.2.1 v.2.2.2.2.2.2.1 v.2.2.2.2.2.2.2
def f154.O (n:Nat):Orc:=orcOf (E:=E) [f183.w] [] n
theorem f154.ok:FnS 154 f154.P sg_iiliil f154.A f154.F:=fnS c154 f154.O
def f154.w:FnW E:=fnW 154 f154.P sg_iiliil f154.A f154.F f154.ok
def f113.l0 (n:Nat):Nat→Nat→List T→Nat→List T→Int→Option ((Bool) ⊕ (Unit))
 | 0,_,_,_,_,_=>none
 | m+1,n1,l2,n3,l4,i5 =>
   br (decide (i5<(n1:Int))) (
    gd ((decide ((0≤i5)∧(i5<(n1:Int))))&&(okAt [(CK.int .i64),(CK.int .i64),CK.lst] l2 (((Int.toNat i5) * 3)+0))) (
    gd ((decide ((0≤i5)∧(i5<(n3:Int))))&&(okAt [(CK.int .i64),(CK.int .i64),CK.lst] l4 (((Int.toNat i5) * 3)+0))) (
    bd (f154 n (iAt l2 (((Int.toNat i5) * 3)+0)) (iAt l2 ((((Int.toNat i5) * 3)+0)+1)) (nAt l2 (((((Int.toNat i5) * 3)+0)+1)+1)) (lAt l2 (((((Int.toNat i5) * 3)+0)+1)+1)) (iAt l4 (((Int.toNat i5) * 3)+0)) (iAt l4 ((((Int.toNat i5) * 3)+0)+1)) (nAt l4 (((((Int.toNat i5) * 3)+0)+1)+1)) (lAt l4 (((((Int.toNat i5) * 3)+0)+1)+1))) fun r6 =>
    let b7:=r6
    br (!b7) (
     some (Sum.inl false)) (
     f113.l0 n m n1 l2 n3 l4 (IntKind.i64.wrap (i5+(1:Int))))))) (
    some (Sum.inr ()))
def f113:Nat→Nat→List T→Nat→List T→Option (Bool)
 | 0,_,_,_,_=>none
 | n+1,n1,l2,n3,l4 =>
   br ((n1:Int) != (n3:Int)) (
    some false) (
    bd (f113.l0 n n n1 l2 n3 l4 (0:Int)) fun r5 =>
    sm r5 (fun u6 =>
     let b7:=u6
     some b7) (fun u8 =>
     some true))
def f113.l0.P:AS:=⟨[(0,qS29),(1,qS29),(5,qS34)],0⟩
def f113.l0.A:Alt ((Bool) ⊕ (Unit)):=.or (.one .ret ⟨[(4,qS35)],0⟩ sg_b) (.one (.exit 0) ⟨[(4,.dead)],0⟩ sg)
def f113.l0.F (n m:Nat) (v:Nat × List T × Nat × List T × Int):=f113.l0 n m v.1 v.2.1 v.2.2.1 v.2.2.2.1 v.2.2.2.2
def f113.l0.W (n:Nat):LpW:=.of 64 f113.l0.P sg_lli f113.l0.A (f113.l0.F n n)
def f113.P:List Arg:=[qA20,qA20]
def f113.A:RAlt (Bool):=.one ⟨[qV14],[none,none]⟩ sg_b
def f113.F (n:Nat) (v:Nat × List T × Nat × List T):=f113 n v.1 v.2.1 v.2.2.1 v.2.2.2
def f113.O (n:Nat):Orc:=orcOf (E:=E) [f154.w] [f113.l0.W n] n
theorem f113.l0.ok:∀ n,LpS 113 c113 0 n (f113.O n):=lpS f113.l0.P sg_lli f113.l0.A f113.l0.F
theorem f113.ok:FnS 113 f113.P sg_ll f113.A f113.F:=fnS c113 f113.O [loopAt c113 0] (fun n=>(.cons (f113.l0.ok n) .nil))
def f113.w:FnW E:=fnW 113 f113.P sg_ll f113.A f113.F f113.ok
def f197:Nat→Int→Int→Nat→List T→Int→Int→Nat→List T→Option (Bool)
 | 0,_,_,_,_,_,_,_,_=>none
 | n+1,i1,i2,n3,l4,i5,i6,n7,l8 =>
   br (i1 != i5) (
    some false) (
    br (i2 != i6) (
     some false) (
     bd (f183 n n3 l4 n7 l8) fun r9 =>
     let b10:=r9
     br (!b10) (
      some false) (
      some true)))
def f197.P:List Arg:=[qA19,qA19]
def f197.A:RAlt (Bool):=.one ⟨[qV14],[none,none]⟩ sg_b
def f197.F (n:Nat) (v:Int × Int × Nat × List T × Int × Int × Nat × List T):=f197 n v.1 v.2.1 v.2.2.1 v.2.2.2.1 v.2.2.2.2.1 v.2.2.2.2.2.1 v.2.2.2.2.2.2.1 v.2.2.2.2.2.2.2
def f197.O (n:Nat):Orc:=orcOf (E:=E) [f183.w] [] n
theorem f197.ok:FnS 197 f197.P sg_iiliil f197.A f197.F:=fnS c197 f197.O
def f197.w:FnW E:=fnW 197 f197.P sg_iiliil f197.A f197.F f197.ok
def f184.l0 (n:Nat):Nat→Nat→List T→Nat→List T→Int→Option ((Bool) ⊕ (Unit))
 | 0,_,_,_,_,_=>none
 | m+1,n1,l2,n3,l4,i5 =>
   br (decide (i5<(n1:Int))) (
    gd ((decide ((0≤i5)∧(i5<(n1:Int))))&&(okAt [(CK.int .i64),(CK.int .i64),CK.lst] l2 (((Int.toNat i5) * 3)+0))) (
    gd ((decide ((0≤i5)∧(i5<(n3:Int))))&&(okAt [(CK.int .i64),(CK.int .i64),CK.lst] l4 (((Int.toNat i5) * 3)+0))) (
    bd (f197 n (iAt l2 (((Int.toNat i5) * 3)+0)) (iAt l2 ((((Int.toNat i5) * 3)+0)+1)) (nAt l2 (((((Int.toNat i5) * 3)+0)+1)+1)) (lAt l2 (((((Int.toNat i5) * 3)+0)+1)+1)) (iAt l4 (((Int.toNat i5) * 3)+0)) (iAt l4 ((((Int.toNat i5) * 3)+0)+1)) (nAt l4 (((((Int.toNat i5) * 3)+0)+1)+1)) (lAt l4 (((((Int.toNat i5) * 3)+0)+1)+1))) fun r6 =>
    let b7:=r6
    br (!b7) (
     some (Sum.inl false)) (
     f184.l0 n m n1 l2 n3 l4 (IntKind.i64.wrap (i5+(1:Int))))))) (
    some (Sum.inr ()))
def f184:Nat→Nat→List T→Nat→List T→Option (Bool)
 | 0,_,_,_,_=>none
 | n+1,n1,l2,n3,l4 =>
   br ((n1:Int) != (n3:Int)) (
    some false) (
    bd (f184.l0 n n n1 l2 n3 l4 (0:Int)) fun r5 =>
    sm r5 (fun u6 =>
     let b7:=u6
     some b7) (fun u8 =>
     some true))
def f184.l0.P:AS:=⟨[(0,qS29),(1,qS29),(5,qS34)],0⟩
def f184.l0.A:Alt ((Bool) ⊕ (Unit)):=.or (.one .ret ⟨[(4,qS35)],0⟩ sg_b) (.one (.exit 0) ⟨[(4,.dead)],0⟩ sg)
def f184.l0.F (n m:Nat) (v:Nat × List T × Nat × List T × Int):=f184.l0 n m v.1 v.2.1 v.2.2.1 v.2.2.2.1 v.2.2.2.2
def f184.l0.W (n:Nat):LpW:=.of 64 f184.l0.P sg_lli f184.l0.A (f184.l0.F n n)
def f184.P:List Arg:=[qA20,qA20]
def f184.A:RAlt (Bool):=.one ⟨[qV14],[none,none]⟩ sg_b
def f184.F (n:Nat) (v:Nat × List T × Nat × List T):=f184 n v.1 v.2.1 v.2.2.1 v.2.2.2
def f184.O (n:Nat):Orc:=orcOf (E:=E) [f197.w] [f184.l0.W n] n
theorem f184.l0.ok:∀ n,LpS 184 c184 0 n (f184.O n):=lpS f184.l0.P sg_lli f184.l0.A f184.l0.F
theorem f184.ok:FnS 184 f184.P sg_ll f184.A f184.F:=fnS c184 f184.O [loopAt c184 0] (fun n=>(.cons (f184.l0.ok n) .nil))
def f184.w:FnW E:=fnW 184 f184.P sg_ll f184.A f184.F f184.ok
def f155:Nat→Nat→List T→Int→Nat→Bool→Bool→Nat→List T→Int→Nat→Bool→Bool→Option (Bool)
 | 0,_,_,_,_,_,_,_,_,_,_,_,_=>none
 | n+1,n1,l2,i3,x4,b5,b6,n7,l8,i9,x10,b11,b12 =>
   bd (f184 n n1 l2 n7 l8) fun r13 =>
   let b14:=r13
   br (!b14) (
    some false) (
    br (i3 != i9) (
     some false) (
     bd ((fltToFlt .f32 x4 .f64)) fun y15 =>
     bd ((fltToFlt .f32 x10 .f64)) fun y16 =>
     bd (f185 n y15 y16) fun r17 =>
     let b18:=r17
     br (!b18) (
      some false) (
      br (!(b5==b11)) (
       some false) (
       br (!(b6==b12)) (
        some false) (
        some true)))))
def sg_lifbblifbb:Sig (Nat × List T × Int × Nat × Bool × Bool × Nat × List T × Int × Nat × Bool × Bool) where
 pk:=fun v=>[.lst v.1 v.2.1,.int v.2.2.1,.flt v.2.2.2.1,.bool v.2.2.2.2.1,.bool v.2.2.2.2.2.1,.lst v.2.2.2.2.2.2.1 v.2.2.2.2.2.2.2.1,.int v.2.2.2.2.2.2.2.2.1,.flt v.2.2.2.2.2.2.2.2.2.1,.bool v.2.2.2.2.2.2.2.2.2.2.1,.bool v.2.2.2.2.2.2.2.2.2.2.2]
 up:=fun ls=>match ls with
  | [.lst a0 a1,.int a2,.flt a3,.bool a4,.bool a5,.lst a6 a7,.int a8,.flt a9,.bool a10,.bool a11]=>some (a0,a1,a2,a3,a4,a5,a6,a7,a8,a9,a10,a11)
  | _=>none
 ok:=by intro _ _ h;split at h <;>cases h;rfl
def f155.P:List Arg:=[qA21,qA21]
def f155.A:RAlt (Bool):=.one ⟨[qV14],[none,none]⟩ sg_b
def f155.F (n:Nat) (v:Nat × List T × Int × Nat × Bool × Bool × Nat × List T × Int × Nat × Bool × Bool):=f155 n v.1 v.2.1 v.2.2.1 v.2.2.2.1 v.2.2.2.2.1 v.2.2.2.2.2.1 v.2.2.2.2.2.2.1 v.2.2.2.2.2.2.2.1 v.2.2.2.2.2.2.2.2.1 v.2.2.2.2.2.2.2.2.2.1 v.2.2.2.2.2.2.2.2.2.2.1 v.2.2.2.2.2.2.2.2.2.2.2
def f155.O (n:Nat):Orc:=orcOf (E:=E) [f185.w,f184.w] [] n
theorem f155.ok:FnS 155 f155.P sg_lifbblifbb f155.A f155.F:=fnS c155 f155.O
def f155.w:FnW E:=fnW 155 f155.P sg_lifbblifbb f155.A f155.F f155.ok
def f114.l0 (n:Nat):Nat→Nat→List T→Nat→List T→Int→Option ((Bool) ⊕ (Unit))
 | 0,_,_,_,_,_=>none
 | m+1,n1,l2,n3,l4,i5 =>
   br (decide (i5<(n1:Int))) (
    gd ((decide ((0≤i5)∧(i5<(n1:Int))))&&(okAt [CK.lst,(CK.int .i64),(CK.flt .f32),CK.bool,CK.bool] l2 (((Int.toNat i5) * 5)+0))) (
    gd ((decide ((0≤i5)∧(i5<(n3:Int))))&&(okAt [CK.lst,(CK.int .i64),(CK.flt .f32),CK.bool,CK.bool] l4 (((Int.toNat i5) * 5)+0))) (
    bd (f155 n (nAt l2 (((Int.toNat i5) * 5)+0)) (lAt l2 (((Int.toNat i5) * 5)+0)) (iAt l2 ((((Int.toNat i5) * 5)+0)+1)) (fAt l2 (((((Int.toNat i5) * 5)+0)+1)+1)) (bAt l2 ((((((Int.toNat i5) * 5)+0)+1)+1)+1)) (bAt l2 (((((((Int.toNat i5) * 5)+0)+1)+1)+1)+1)) (nAt l4 (((Int.toNat i5) * 5)+0)) (lAt l4 (((Int.toNat i5) * 5)+0)) (iAt l4 ((((Int.toNat i5) * 5)+0)+1)) (fAt l4 (((((Int.toNat i5) * 5)+0)+1)+1)) (bAt l4 ((((((Int.toNat i5) * 5)+0)+1)+1)+1)) (bAt l4 (((((((Int.toNat i5) * 5)+0)+1)+1)+1)+1))) fun r6 =>
    let b7:=r6
    br (!b7) (
     some (Sum.inl false)) (
     f114.l0 n m n1 l2 n3 l4 (IntKind.i64.wrap (i5+(1:Int))))))) (
    some (Sum.inr ()))
def f114:Nat→Nat→List T→Nat→List T→Option (Bool)
 | 0,_,_,_,_=>none
 | n+1,n1,l2,n3,l4 =>
   br ((n1:Int) != (n3:Int)) (
    some false) (
    bd (f114.l0 n n n1 l2 n3 l4 (0:Int)) fun r5 =>
    sm r5 (fun u6 =>
     let b7:=u6
     some b7) (fun u8 =>
     some true))
def f114.l0.P:AS:=⟨[(0,qS27),(1,qS27),(5,qS34)],0⟩
def f114.l0.A:Alt ((Bool) ⊕ (Unit)):=.or (.one .ret ⟨[(4,qS35)],0⟩ sg_b) (.one (.exit 0) ⟨[(4,.dead)],0⟩ sg)
def f114.l0.F (n m:Nat) (v:Nat × List T × Nat × List T × Int):=f114.l0 n m v.1 v.2.1 v.2.2.1 v.2.2.2.1 v.2.2.2.2
def f114.l0.W (n:Nat):LpW:=.of 64 f114.l0.P sg_lli f114.l0.A (f114.l0.F n n)
def f114.P:List Arg:=[qA22,qA22]
def f114.A:RAlt (Bool):=.one ⟨[qV14],[none,none]⟩ sg_b
def f114.F (n:Nat) (v:Nat × List T × Nat × List T):=f114 n v.1 v.2.1 v.2.2.1 v.2.2.2
def f114.O (n:Nat):Orc:=orcOf (E:=E) [f155.w] [f114.l0.W n] n
theorem f114.l0.ok:∀ n,LpS 114 c114 0 n (f114.O n):=lpS f114.l0.P sg_lli f114.l0.A f114.l0.F
theorem f114.ok:FnS 114 f114.P sg_ll f114.A f114.F:=fnS c114 f114.O [loopAt c114 0] (fun n=>(.cons (f114.l0.ok n) .nil))
def f114.w:FnW E:=fnW 114 f114.P sg_ll f114.A f114.F f114.ok
def f57:Nat→Nat→List T→Nat→List T→Nat→List T→Nat→List T→Option (Bool)
 | 0,_,_,_,_,_,_,_,_=>none
 | n+1,n1,l2,n3,l4,n5,l6,n7,l8 =>
   bd (f113 n n1 l2 n5 l6) fun r9 =>
   let b10:=r9
   br (!b10) (
    some false) (
    bd (f114 n n3 l4 n7 l8) fun r11 =>
    let b12:=r11
    br (!b12) (
     some false) (
     some true))
def f57.P:List Arg:=[qA23,qA23]
def f57.A:RAlt (Bool):=.one ⟨[qV14],[none,none]⟩ sg_b
def f57.F (n:Nat) (v:Nat × List T × Nat × List T × Nat × List T × Nat × List T):=f57 n v.1 v.2.1 v.2.2.1 v.2.2.2.1 v.2.2.2.2.1 v.2.2.2.2.2.1 v.2.2.2.2.2.2.1 v.2.2.2.2.2.2.2
def f57.O (n:Nat):Orc:=orcOf (E:=E) [f113.w,f114.w] [] n
theorem f57.ok:FnS 57 f57.P sg_llll f57.A f57.F:=fnS c57 f57.O
def f57.w:FnW E:=fnW 57 f57.P sg_llll f57.A f57.F f57.ok
def f156.l0 (n:Nat):Nat→Nat→List T→Int→Int→Option (Nat × List T × Int)
 | 0,_,_,_,_=>none
 | m+1,n1,l2,i3,i4 =>
   br (decide (i4<(n1:Int))) (
    gd (decide ((0≤i4)∧(i4<(n1:Int)))) (
    gd (Nat.ble ((Int.toNat i4)+1) (List.length l2)) (
    let l5:=(setN l2 (Int.toNat i4) [(T.flt .f32 (FloatKind.nearest .f32 i3))])
    let i6:=(IntKind.i64.wrap (i3+(1:Int)))
    f156.l0 n m n1 l5 i6 (IntKind.i64.wrap (i4+(1:Int)))))) (
    some (n1,l2,i3))
def f156:Nat→Nat→List T→Int→Option (Int × Nat × List T)
 | 0,_,_,_=>none
 | n+1,n1,l2,i3 =>
   bd (f156.l0 n n n1 l2 i3 (0:Int)) fun r4 =>
   let n5:=r4.1
   let l6:=r4.2.1
   let i7:=r4.2.2
   some (i7,n5,l6)
def sg_il:Sig (Int × Nat × List T) where
 pk:=fun v=>[.int v.1,.lst v.2.1 v.2.2]
 up:=fun ls=>match ls with
  | [.int a0,.lst a1 a2]=>some (a0,a1,a2)
  | _=>none
 ok:=by intro _ _ h;split at h <;>cases h;rfl
def f156.l0.P:AS:=⟨[(0,.val false [.sl .own [.leaf]] [.lst 0 []] [] 1),(1,qS34),(5,qS34)],0⟩
def f156.l0.A:Alt (Nat × List T × Int):=.one (.exit 0) ⟨[(0,.val false [.sl .own [.leaf]] [.lst 0 []] [] 1),(1,qS34)],0⟩ sg_li
def f156.l0.F (n m:Nat) (v:Nat × List T × Int × Int):=f156.l0 n m v.1 v.2.1 v.2.2.1 v.2.2.2
def f156.l0.W (n:Nat):LpW:=.of 32 f156.l0.P sg_lii f156.l0.A (f156.l0.F n n)
def f156.P:List Arg:=[⟨.io,qV12⟩,qA17]
def f156.A:RAlt (Int × Nat × List T):=.one ⟨[qV13],[some qV12,none]⟩ sg_il
def f156.F (n:Nat) (v:Nat × List T × Int):=f156 n v.1 v.2.1 v.2.2
def f156.O (n:Nat):Orc:=orcOf (E:=E) [] [f156.l0.W n] n
theorem f156.l0.ok:∀ n,LpS 156 c156 0 n (f156.O n):=lpS f156.l0.P sg_lii f156.l0.A f156.l0.F
theorem f156.ok:FnS 156 f156.P sg_li f156.A f156.F:=fnS c156 f156.O [loopAt c156 0] (fun n=>(.cons (f156.l0.ok n) .nil))
def f156.w:FnW E:=fnW 156 f156.P sg_li f156.A f156.F f156.ok
def f115.l0 (n:Nat):Nat→Nat→List T→Int→Int→Option (Nat × List T × Int)
 | 0,_,_,_,_=>none
 | m+1,n1,l2,i3,i4 =>
   br (decide (i4<(n1:Int))) (
    gd (decide ((0≤i4)∧(i4<(n1:Int)))) (
    gd (Nat.ble ((((Int.toNat i4) * 3)+0)+1) (List.length l2)) (
    let l5:=(setN l2 (((Int.toNat i4) * 3)+0) [(T.int .i64 i3)])
    let i6:=(IntKind.i64.wrap (i3+(1:Int)))
    gd (decide ((0≤i4)∧(i4<(n1:Int)))) (
    gd (Nat.ble ((((Int.toNat i4) * 3)+1)+1) (List.length l5)) (
    let l7:=(setN l5 (((Int.toNat i4) * 3)+1) [(T.int .i64 i6)])
    let i8:=(IntKind.i64.wrap (i6+(1:Int)))
    gd (decide ((0≤i4)∧(i4<(n1:Int)))) (
    gd (okAt [CK.lst] l7 (((Int.toNat i4) * 3)+2)) (
    gd ((okAt [CK.lst] l7 (((Int.toNat i4) * 3)+2))&&true) (
    gd ((okAt [CK.lst] l7 (((Int.toNat i4) * 3)+2))&&true) (
    bd (f156 n (nAt l7 (((Int.toNat i4) * 3)+2)) (lAt l7 (((Int.toNat i4) * 3)+2)) i8) fun r9 =>
    let i10:=r9.1
    let n11:=r9.2.1
    let l12:=r9.2.2
    let l13:=(setN l7 (((Int.toNat i4) * 3)+2) [(T.lst n11 l12)])
    f115.l0 n m n1 l13 i10 (IntKind.i64.wrap (i4+(1:Int)))))))))))) (
    some (n1,l2,i3))
def f115:Nat→Nat→List T→Int→Option (Int × Nat × List T)
 | 0,_,_,_=>none
 | n+1,n1,l2,i3 =>
   bd (f115.l0 n n n1 l2 i3 (0:Int)) fun r4 =>
   let n5:=r4.1
   let l6:=r4.2.1
   let i7:=r4.2.2
   some (i7,n5,l6)
def f115.l0.P:AS:=⟨[(0,qS31),(1,qS34),(5,qS34)],0⟩
def f115.l0.A:Alt (Nat × List T × Int):=.one (.exit 0) ⟨[(0,qS31),(1,qS34)],0⟩ sg_li
def f115.l0.F (n m:Nat) (v:Nat × List T × Int × Int):=f115.l0 n m v.1 v.2.1 v.2.2.1 v.2.2.2
def f115.l0.W (n:Nat):LpW:=.of 32 f115.l0.P sg_lii f115.l0.A (f115.l0.F n n)
def f115.P:List Arg:=[⟨.io,qV10⟩,qA17]
def f115.A:RAlt (Int × Nat × List T):=.one ⟨[qV13],[some qV10,none]⟩ sg_il
def f115.F (n:Nat) (v:Nat × List T × Int):=f115 n v.1 v.2.1 v.2.2
def f115.O (n:Nat):Orc:=orcOf (E:=E) [f156.w] [f115.l0.W n] n
theorem f115.l0.ok:∀ n,LpS 115 c115 0 n (f115.O n):=lpS f115.l0.P sg_lii f115.l0.A f115.l0.F
theorem f115.ok:FnS 115 f115.P sg_li f115.A f115.F:=fnS c115 f115.O [loopAt c115 0] (fun n=>(.cons (f115.l0.ok n) .nil))
def f115.w:FnW E:=fnW 115 f115.P sg_li f115.A f115.F f115.ok
def f157.l0 (n:Nat):Nat→Nat→List T→Int→Int→Option (Nat × List T × Int)
 | 0,_,_,_,_=>none
 | m+1,n1,l2,i3,i4 =>
   br (decide (i4<(n1:Int))) (
    gd (decide ((0≤i4)∧(i4<(n1:Int)))) (
    gd (Nat.ble ((((Int.toNat i4) * 3)+0)+1) (List.length l2)) (
    let l5:=(setN l2 (((Int.toNat i4) * 3)+0) [(T.int .i64 i3)])
    let i6:=(IntKind.i64.wrap (i3+(1:Int)))
    gd (decide ((0≤i4)∧(i4<(n1:Int)))) (
    gd (Nat.ble ((((Int.toNat i4) * 3)+1)+1) (List.length l5)) (
    let l7:=(setN l5 (((Int.toNat i4) * 3)+1) [(T.int .i64 i6)])
    let i8:=(IntKind.i64.wrap (i6+(1:Int)))
    gd (decide ((0≤i4)∧(i4<(n1:Int)))) (
    gd (okAt [CK.lst] l7 (((Int.toNat i4) * 3)+2)) (
    gd ((okAt [CK.lst] l7 (((Int.toNat i4) * 3)+2))&&true) (
    gd ((okAt [CK.lst] l7 (((Int.toNat i4) * 3)+2))&&true) (
    bd (f156 n (nAt l7 (((Int.toNat i4) * 3)+2)) (lAt l7 (((Int.toNat i4) * 3)+2)) i8) fun r9 =>
    let i10:=r9.1
    let n11:=r9.2.1
    let l12:=r9.2.2
    let l13:=(setN l7 (((Int.toNat i4) * 3)+2) [(T.lst n11 l12)])
    f157.l0 n m n1 l13 i10 (IntKind.i64.wrap (i4+(1:Int)))))))))))) (
    some (n1,l2,i3))
def f157:Nat→Nat→List T→Int→Option (Int × Nat × List T)
 | 0,_,_,_=>none
 | n+1,n1,l2,i3 =>
   bd (f157.l0 n n n1 l2 i3 (0:Int)) fun r4 =>
   let n5:=r4.1
   let l6:=r4.2.1
   let i7:=r4.2.2
   some (i7,n5,l6)
def f157.l0.P:AS:=⟨[(0,qS31),(1,qS34),(5,qS34)],0⟩
def f157.l0.A:Alt (Nat × List T × Int):=.one (.exit 0) ⟨[(0,qS31),(1,qS34)],0⟩ sg_li
def f157.l0.F (n m:Nat) (v:Nat × List T × Int × Int):=f157.l0 n m v.1 v.2.1 v.2.2.1 v.2.2.2
def f157.l0.W (n:Nat):LpW:=.of 32 f157.l0.P sg_lii f157.l0.A (f157.l0.F n n)
def f157.P:List Arg:=[⟨.io,qV10⟩,qA17]
def f157.A:RAlt (Int × Nat × List T):=.one ⟨[qV13],[some qV10,none]⟩ sg_il
def f157.F (n:Nat) (v:Nat × List T × Int):=f157 n v.1 v.2.1 v.2.2
def f157.O (n:Nat):Orc:=orcOf (E:=E) [f156.w] [f157.l0.W n] n
theorem f157.l0.ok:∀ n,LpS 157 c157 0 n (f157.O n):=lpS f157.l0.P sg_lii f157.l0.A f157.l0.F
theorem f157.ok:FnS 157 f157.P sg_li f157.A f157.F:=fnS c157 f157.O [loopAt c157 0] (fun n=>(.cons (f157.l0.ok n) .nil))
def f157.w:FnW E:=fnW 157 f157.P sg_li f157.A f157.F f157.ok
def f116.l0 (n:Nat):Nat→Nat→List T→Int→Int→Option (Nat × List T × Int)
 | 0,_,_,_,_=>none
 | m+1,n1,l2,i3,i4 =>
   br (decide (i4<(n1:Int))) (
    gd (decide ((0≤i4)∧(i4<(n1:Int)))) (
    gd (okAt [CK.lst] l2 (((Int.toNat i4) * 5)+0)) (
    gd ((okAt [CK.lst] l2 (((Int.toNat i4) * 5)+0))&&true) (
    gd ((okAt [CK.lst] l2 (((Int.toNat i4) * 5)+0))&&true) (
    bd (f157 n (nAt l2 (((Int.toNat i4) * 5)+0)) (lAt l2 (((Int.toNat i4) * 5)+0)) i3) fun r5 =>
    let i6:=r5.1
    let n7:=r5.2.1
    let l8:=r5.2.2
    let l9:=(setN l2 (((Int.toNat i4) * 5)+0) [(T.lst n7 l8)])
    gd (decide ((0≤i4)∧(i4<(n1:Int)))) (
    gd (Nat.ble ((((Int.toNat i4) * 5)+1)+1) (List.length l9)) (
    let l10:=(setN l9 (((Int.toNat i4) * 5)+1) [(T.int .i64 i6)])
    let i11:=(IntKind.i64.wrap (i6+(1:Int)))
    gd (decide ((0≤i4)∧(i4<(n1:Int)))) (
    gd (Nat.ble ((((Int.toNat i4) * 5)+2)+1) (List.length l10)) (
    let l12:=(setN l10 (((Int.toNat i4) * 5)+2) [(T.flt .f32 (FloatKind.nearest .f32 i11))])
    let i13:=(IntKind.i64.wrap (i11+(1:Int)))
    gd (decide ((0≤i4)∧(i4<(n1:Int)))) (
    gd (Nat.ble ((((Int.toNat i4) * 5)+3)+1) (List.length l12)) (
    let l14:=(setN l12 (((Int.toNat i4) * 5)+3) [(T.bool ((Int.tmod i13 (3:Int))==(0:Int)))])
    let i15:=(IntKind.i64.wrap (i13+(1:Int)))
    gd (decide ((0≤i4)∧(i4<(n1:Int)))) (
    gd (Nat.ble ((((Int.toNat i4) * 5)+4)+1) (List.length l14)) (
    let l16:=(setN l14 (((Int.toNat i4) * 5)+4) [(T.bool ((Int.tmod i15 (3:Int))==(0:Int)))])
    let i17:=(IntKind.i64.wrap (i15+(1:Int)))
    f116.l0 n m n1 l16 i17 (IntKind.i64.wrap (i4+(1:Int)))))))))))))))) (
    some (n1,l2,i3))
def f116:Nat→Nat→List T→Int→Option (Int × Nat × List T)
 | 0,_,_,_=>none
 | n+1,n1,l2,i3 =>
   bd (f116.l0 n n n1 l2 i3 (0:Int)) fun r4 =>
   let n5:=r4.1
   let l6:=r4.2.1
   let i7:=r4.2.2
   some (i7,n5,l6)
def f116.l0.P:AS:=⟨[(0,.val false [.sl .own [.sl .own [.leaf,.leaf,.sl .own [.leaf]],.leaf,.leaf,.leaf,.leaf]] [.lst 0 []] [] 1),(1,qS34),(5,qS34)],0⟩
def f116.l0.A:Alt (Nat × List T × Int):=.one (.exit 0) ⟨[(0,.val false [.sl .own [.sl .own [.leaf,.leaf,.sl .own [.leaf]],.leaf,.leaf,.leaf,.leaf]] [.lst 0 []] [] 1),(1,qS34)],0⟩ sg_li
def f116.l0.F (n m:Nat) (v:Nat × List T × Int × Int):=f116.l0 n m v.1 v.2.1 v.2.2.1 v.2.2.2
def f116.l0.W (n:Nat):LpW:=.of 32 f116.l0.P sg_lii f116.l0.A (f116.l0.F n n)
def f116.P:List Arg:=[⟨.io,qV5⟩,qA17]
def f116.A:RAlt (Int × Nat × List T):=.one ⟨[qV13],[some qV5,none]⟩ sg_il
def f116.F (n:Nat) (v:Nat × List T × Int):=f116 n v.1 v.2.1 v.2.2
def f116.O (n:Nat):Orc:=orcOf (E:=E) [f157.w] [f116.l0.W n] n
theorem f116.l0.ok:∀ n,LpS 116 c116 0 n (f116.O n):=lpS f116.l0.P sg_lii f116.l0.A f116.l0.F
theorem f116.ok:FnS 116 f116.P sg_li f116.A f116.F:=fnS c116 f116.O [loopAt c116 0] (fun n=>(.cons (f116.l0.ok n) .nil))
def f116.w:FnW E:=fnW 116 f116.P sg_li f116.A f116.F f116.ok
def f58:Nat→Nat→List T→Nat→List T→Int→Option (Int × Nat × List T × Nat × List T)
 | 0,_,_,_,_,_=>none
 | n+1,n1,l2,n3,l4,i5 =>
   bd (f115 n n1 l2 i5) fun r6 =>
   let i7:=r6.1
   let n8:=r6.2.1
   let l9:=r6.2.2
   bd (f116 n n3 l4 i7) fun r10 =>
   let i11:=r10.1
   let n12:=r10.2.1
   let l13:=r10.2.2
   some (i11,n8,l9,n12,l13)
def sg_ill:Sig (Int × Nat × List T × Nat × List T) where
 pk:=fun v=>[.int v.1,.lst v.2.1 v.2.2.1,.lst v.2.2.2.1 v.2.2.2.2]
 up:=fun ls=>match ls with
  | [.int a0,.lst a1 a2,.lst a3 a4]=>some (a0,a1,a2,a3,a4)
  | _=>none
 ok:=by intro _ _ h;split at h <;>cases h;rfl
def f58.P:List Arg:=[⟨.io,qV2⟩,qA17]
def f58.A:RAlt (Int × Nat × List T × Nat × List T):=.one ⟨[qV13],[some qV2,none]⟩ sg_ill
def f58.F (n:Nat) (v:Nat × List T × Nat × List T × Int):=f58 n v.1 v.2.1 v.2.2.1 v.2.2.2.1 v.2.2.2.2
def f58.O (n:Nat):Orc:=orcOf (E:=E) [f115.w,f116.w] [] n
theorem f58.ok:FnS 58 f58.P sg_lli f58.A f58.F:=fnS c58 f58.O
def f58.w:FnW E:=fnW 58 f58.P sg_lli f58.A f58.F f58.ok
def f158.l0 (n:Nat):Nat→Nat→List T→Int→Int→Option ((Int) ⊕ (Int))
 | 0,_,_,_,_=>none
 | m+1,n1,l2,i3,i4 =>
   br (decide (i4<(n1:Int))) (
    gd ((decide ((0≤i4)∧(i4<(n1:Int))))&&(okAt [(CK.flt .f32)] l2 (Int.toNat i4))) (
    br (fne .f32 (fAt l2 (Int.toNat i4)) (FloatKind.nearest .f32 i3)) (
     some (Sum.inl (-1:Int))) (
     let i5:=(IntKind.i64.wrap (i3+(1:Int)))
     f158.l0 n m n1 l2 i5 (IntKind.i64.wrap (i4+(1:Int)))))) (
    some (Sum.inr i3))
def f158:Nat→Nat→List T→Int→Option (Int)
 | 0,_,_,_=>none
 | n+1,n1,l2,i3 =>
   bd (f158.l0 n n n1 l2 i3 (0:Int)) fun r4 =>
   sm r4 (fun u5 =>
    let i6:=u5
    some i6) (fun u7 =>
    let i8:=u7
    some i8)
def f158.l0.P:AS:=⟨[(0,qS32),(1,qS34),(5,qS34)],0⟩
def f158.l0.A:Alt ((Int) ⊕ (Int)):=.or (.one .ret ⟨[(1,.dead),(4,qS34)],0⟩ sg_i) (.one (.exit 0) ⟨[(1,qS34),(4,.dead)],0⟩ sg_i)
def f158.l0.F (n m:Nat) (v:Nat × List T × Int × Int):=f158.l0 n m v.1 v.2.1 v.2.2.1 v.2.2.2
def f158.l0.W (n:Nat):LpW:=.of 32 f158.l0.P sg_lii f158.l0.A (f158.l0.F n n)
def f158.P:List Arg:=[qA16,qA17]
def f158.A:RAlt (Int):=.one ⟨[qV13],[none,none]⟩ sg_i
def f158.F (n:Nat) (v:Nat × List T × Int):=f158 n v.1 v.2.1 v.2.2
def f158.O (n:Nat):Orc:=orcOf (E:=E) [] [f158.l0.W n] n
theorem f158.l0.ok:∀ n,LpS 158 c158 0 n (f158.O n):=lpS f158.l0.P sg_lii f158.l0.A f158.l0.F
theorem f158.ok:FnS 158 f158.P sg_li f158.A f158.F:=fnS c158 f158.O [loopAt c158 0] (fun n=>(.cons (f158.l0.ok n) .nil))
def f158.w:FnW E:=fnW 158 f158.P sg_li f158.A f158.F f158.ok
def f117.l0 (n:Nat):Nat→Nat→List T→Int→Int→Option ((Int) ⊕ (Int))
 | 0,_,_,_,_=>none
 | m+1,n1,l2,i3,i4 =>
   br (decide (i4<(n1:Int))) (
    gd ((decide ((0≤i4)∧(i4<(n1:Int))))&&(okAt [(CK.int .i64),(CK.int .i64),CK.lst] l2 (((Int.toNat i4) * 3)+0))) (
    br ((iAt l2 (((Int.toNat i4) * 3)+0)) != i3) (
     some (Sum.inl (-1:Int))) (
     let i5:=(IntKind.i64.wrap (i3+(1:Int)))
     gd ((decide ((0≤i4)∧(i4<(n1:Int))))&&(okAt [(CK.int .i64),(CK.int .i64),CK.lst] l2 (((Int.toNat i4) * 3)+0))) (
     br ((iAt l2 ((((Int.toNat i4) * 3)+0)+1)) != i5) (
      some (Sum.inl (-1:Int))) (
      let i6:=(IntKind.i64.wrap (i5+(1:Int)))
      gd ((decide ((0≤i4)∧(i4<(n1:Int))))&&(okAt [(CK.int .i64),(CK.int .i64),CK.lst] l2 (((Int.toNat i4) * 3)+0))) (
      bd (f158 n (nAt l2 (((((Int.toNat i4) * 3)+0)+1)+1)) (lAt l2 (((((Int.toNat i4) * 3)+0)+1)+1)) i6) fun r7 =>
      let i8:=r7
      br (decide (i8<(0:Int))) (
       some (Sum.inl (-1:Int))) (
       f117.l0 n m n1 l2 i8 (IntKind.i64.wrap (i4+(1:Int)))))))))) (
    some (Sum.inr i3))
def f117:Nat→Nat→List T→Int→Option (Int)
 | 0,_,_,_=>none
 | n+1,n1,l2,i3 =>
   bd (f117.l0 n n n1 l2 i3 (0:Int)) fun r4 =>
   sm r4 (fun u5 =>
    let i6:=u5
    some i6) (fun u7 =>
    let i8:=u7
    some i8)
def f117.l0.P:AS:=⟨[(0,qS29),(1,qS34),(5,qS34)],0⟩
def f117.l0.A:Alt ((Int) ⊕ (Int)):=.or (.one .ret ⟨[(1,.dead),(4,qS34)],0⟩ sg_i) (.one (.exit 0) ⟨[(1,qS34),(4,.dead)],0⟩ sg_i)
def f117.l0.F (n m:Nat) (v:Nat × List T × Int × Int):=f117.l0 n m v.1 v.2.1 v.2.2.1 v.2.2.2
def f117.l0.W (n:Nat):LpW:=.of 32 f117.l0.P sg_lii f117.l0.A (f117.l0.F n n)
def f117.P:List Arg:=[qA20,qA17]
def f117.A:RAlt (Int):=.one ⟨[qV13],[none,none]⟩ sg_i
def f117.F (n:Nat) (v:Nat × List T × Int):=f117 n v.1 v.2.1 v.2.2
def f117.O (n:Nat):Orc:=orcOf (E:=E) [f158.w] [f117.l0.W n] n
theorem f117.l0.ok:∀ n,LpS 117 c117 0 n (f117.O n):=lpS f117.l0.P sg_lii f117.l0.A f117.l0.F
theorem f117.ok:FnS 117 f117.P sg_li f117.A f117.F:=fnS c117 f117.O [loopAt c117 0] (fun n=>(.cons (f117.l0.ok n) .nil))
def f117.w:FnW E:=fnW 117 f117.P sg_li f117.A f117.F f117.ok
def f159.l0 (n:Nat):Nat→Nat→List T→Int→Int→Option ((Int) ⊕ (Int))
 | 0,_,_,_,_=>none
 | m+1,n1,l2,i3,i4 =>
   br (decide (i4<(n1:Int))) (
    gd ((decide ((0≤i4)∧(i4<(n1:Int))))&&(okAt [(CK.int .i64),(CK.int .i64),CK.lst] l2 (((Int.toNat i4) * 3)+0))) (
    br ((iAt l2 (((Int.toNat i4) * 3)+0)) != i3) (
     some (Sum.inl (-1:Int))) (
     let i5:=(IntKind.i64.wrap (i3+(1:Int)))
     gd ((decide ((0≤i4)∧(i4<(n1:Int))))&&(okAt [(CK.int .i64),(CK.int .i64),CK.lst] l2 (((Int.toNat i4) * 3)+0))) (
     br ((iAt l2 ((((Int.toNat i4) * 3)+0)+1)) != i5) (
      some (Sum.inl (-1:Int))) (
      let i6:=(IntKind.i64.wrap (i5+(1:Int)))
      gd ((decide ((0≤i4)∧(i4<(n1:Int))))&&(okAt [(CK.int .i64),(CK.int .i64),CK.lst] l2 (((Int.toNat i4) * 3)+0))) (
      bd (f158 n (nAt l2 (((((Int.toNat i4) * 3)+0)+1)+1)) (lAt l2 (((((Int.toNat i4) * 3)+0)+1)+1)) i6) fun r7 =>
      let i8:=r7
      br (decide (i8<(0:Int))) (
       some (Sum.inl (-1:Int))) (
       f159.l0 n m n1 l2 i8 (IntKind.i64.wrap (i4+(1:Int)))))))))) (
    some (Sum.inr i3))
def f159:Nat→Nat→List T→Int→Option (Int)
 | 0,_,_,_=>none
 | n+1,n1,l2,i3 =>
   bd (f159.l0 n n n1 l2 i3 (0:Int)) fun r4 =>
   sm r4 (fun u5 =>
    let i6:=u5
    some i6) (fun u7 =>
    let i8:=u7
    some i8)
def f159.l0.P:AS:=⟨[(0,qS29),(1,qS34),(5,qS34)],0⟩
def f159.l0.A:Alt ((Int) ⊕ (Int)):=.or (.one .ret ⟨[(1,.dead),(4,qS34)],0⟩ sg_i) (.one (.exit 0) ⟨[(1,qS34),(4,.dead)],0⟩ sg_i)
def f159.l0.F (n m:Nat) (v:Nat × List T × Int × Int):=f159.l0 n m v.1 v.2.1 v.2.2.1 v.2.2.2
def f159.l0.W (n:Nat):LpW:=.of 32 f159.l0.P sg_lii f159.l0.A (f159.l0.F n n)
def f159.P:List Arg:=[qA20,qA17]
def f159.A:RAlt (Int):=.one ⟨[qV13],[none,none]⟩ sg_i
def f159.F (n:Nat) (v:Nat × List T × Int):=f159 n v.1 v.2.1 v.2.2
def f159.O (n:Nat):Orc:=orcOf (E:=E) [f158.w] [f159.l0.W n] n
theorem f159.l0.ok:∀ n,LpS 159 c159 0 n (f159.O n):=lpS f159.l0.P sg_lii f159.l0.A f159.l0.F
theorem f159.ok:FnS 159 f159.P sg_li f159.A f159.F:=fnS c159 f159.O [loopAt c159 0] (fun n=>(.cons (f159.l0.ok n) .nil))
def f159.w:FnW E:=fnW 159 f159.P sg_li f159.A f159.F f159.ok
def f118.l0 (n:Nat):Nat→Nat→List T→Int→Int→Option ((Int) ⊕ (Int))
 | 0,_,_,_,_=>none
 | m+1,n1,l2,i3,i4 =>
   br (decide (i4<(n1:Int))) (
    gd ((decide ((0≤i4)∧(i4<(n1:Int))))&&(okAt [CK.lst,(CK.int .i64),(CK.flt .f32),CK.bool,CK.bool] l2 (((Int.toNat i4) * 5)+0))) (
    bd (f159 n (nAt l2 (((Int.toNat i4) * 5)+0)) (lAt l2 (((Int.toNat i4) * 5)+0)) i3) fun r5 =>
    let i6:=r5
    br (decide (i6<(0:Int))) (
     some (Sum.inl (-1:Int))) (
     gd ((decide ((0≤i4)∧(i4<(n1:Int))))&&(okAt [CK.lst,(CK.int .i64),(CK.flt .f32),CK.bool,CK.bool] l2 (((Int.toNat i4) * 5)+0))) (
     br ((iAt l2 ((((Int.toNat i4) * 5)+0)+1)) != i6) (
      some (Sum.inl (-1:Int))) (
      let i7:=(IntKind.i64.wrap (i6+(1:Int)))
      gd ((decide ((0≤i4)∧(i4<(n1:Int))))&&(okAt [CK.lst,(CK.int .i64),(CK.flt .f32),CK.bool,CK.bool] l2 (((Int.toNat i4) * 5)+0))) (
      br (fne .f32 (fAt l2 (((((Int.toNat i4) * 5)+0)+1)+1)) (FloatKind.nearest .f32 i7)) (
       some (Sum.inl (-1:Int))) (
       let i8:=(IntKind.i64.wrap (i7+(1:Int)))
       gd ((decide ((0≤i4)∧(i4<(n1:Int))))&&(okAt [CK.lst,(CK.int .i64),(CK.flt .f32),CK.bool,CK.bool] l2 (((Int.toNat i4) * 5)+0))) (
       br (!((bAt l2 ((((((Int.toNat i4) * 5)+0)+1)+1)+1))==((Int.tmod i8 (3:Int))==(0:Int)))) (
        some (Sum.inl (-1:Int))) (
        let i9:=(IntKind.i64.wrap (i8+(1:Int)))
        gd ((decide ((0≤i4)∧(i4<(n1:Int))))&&(okAt [CK.lst,(CK.int .i64),(CK.flt .f32),CK.bool,CK.bool] l2 (((Int.toNat i4) * 5)+0))) (
        br (!((bAt l2 (((((((Int.toNat i4) * 5)+0)+1)+1)+1)+1))==((Int.tmod i9 (3:Int))==(0:Int)))) (
         some (Sum.inl (-1:Int))) (
         let i10:=(IntKind.i64.wrap (i9+(1:Int)))
         f118.l0 n m n1 l2 i10 (IntKind.i64.wrap (i4+(1:Int)))))))))))))) (
    some (Sum.inr i3))
def f118:Nat→Nat→List T→Int→Option (Int)
 | 0,_,_,_=>none
 | n+1,n1,l2,i3 =>
   bd (f118.l0 n n n1 l2 i3 (0:Int)) fun r4 =>
   sm r4 (fun u5 =>
    let i6:=u5
    some i6) (fun u7 =>
    let i8:=u7
    some i8)
def f118.l0.P:AS:=⟨[(0,qS27),(1,qS34),(5,qS34)],0⟩
def f118.l0.A:Alt ((Int) ⊕ (Int)):=.or (.one .ret ⟨[(1,.dead),(4,qS34)],0⟩ sg_i) (.one (.exit 0) ⟨[(1,qS34),(4,.dead)],0⟩ sg_i)
def f118.l0.F (n m:Nat) (v:Nat × List T × Int × Int):=f118.l0 n m v.1 v.2.1 v.2.2.1 v.2.2.2
def f118.l0.W (n:Nat):LpW:=.of 32 f118.l0.P sg_lii f118.l0.A (f118.l0.F n n)
def f118.P:List Arg:=[qA22,qA17]
def f118.A:RAlt (Int):=.one ⟨[qV13],[none,none]⟩ sg_i
def f118.F (n:Nat) (v:Nat × List T × Int):=f118 n v.1 v.2.1 v.2.2
def f118.O (n:Nat):Orc:=orcOf (E:=E) [f159.w] [f118.l0.W n] n
theorem f118.l0.ok:∀ n,LpS 118 c118 0 n (f118.O n):=lpS f118.l0.P sg_lii f118.l0.A f118.l0.F
theorem f118.ok:FnS 118 f118.P sg_li f118.A f118.F:=fnS c118 f118.O [loopAt c118 0] (fun n=>(.cons (f118.l0.ok n) .nil))
def f118.w:FnW E:=fnW 118 f118.P sg_li f118.A f118.F f118.ok
def f59:Nat→Nat→List T→Nat→List T→Int→Option (Int)
 | 0,_,_,_,_,_=>none
 | n+1,n1,l2,n3,l4,i5 =>
   bd (f117 n n1 l2 i5) fun r6 =>
   let i7:=r6
   br (decide (i7<(0:Int))) (
    some (-1:Int)) (
    bd (f118 n n3 l4 i7) fun r8 =>
    let i9:=r8
    br (decide (i9<(0:Int))) (
     some (-1:Int)) (
     some i9))
def f59.P:List Arg:=[qA23,qA17]
def f59.A:RAlt (Int):=.one ⟨[qV13],[none,none]⟩ sg_i
def f59.F (n:Nat) (v:Nat × List T × Nat × List T × Int):=f59 n v.1 v.2.1 v.2.2.1 v.2.2.2.1 v.2.2.2.2
def f59.O (n:Nat):Orc:=orcOf (E:=E) [f117.w,f118.w] [] n
theorem f59.ok:FnS 59 f59.P sg_lli f59.A f59.F:=fnS c59 f59.O
def f59.w:FnW E:=fnW 59 f59.P sg_lli f59.A f59.F f59.ok
def f11:Nat→Nat→List T→Nat→List T→Option (Bool)
 | 0,_,_,_,_=>none
 | n+1,n1,l2,n3,l4 =>
   bd (f55 n n1 l2 n3 l4 (1048576:Int)) fun r5 =>
   let i6:=r5
   br (decide (i6<(0:Int))) (
    some true) (
    bd (f56 n n1 l2 n3 l4) fun r7 =>
    let n8:=r7.1
    let l9:=r7.2.1
    let n10:=r7.2.2.1
    let l11:=r7.2.2.2
    bd (f62 n n8 l9 n10 l11) fun r12 =>
    let n13:=r12.1
    let l14:=r12.2.1
    let n15:=r12.2.2.1
    let l16:=r12.2.2.2.1
    let b17:=r12.2.2.2.2
    bd (f56 n n1 l2 n3 l4) fun r18 =>
    let n19:=r18.1
    let l20:=r18.2.1
    let n21:=r18.2.2.1
    let l22:=r18.2.2.2
    bd (f63 n n19 l20 n21 l22) fun r23 =>
    let n24:=r23.1
    let l25:=r23.2.1
    let n26:=r23.2.2.1
    let l27:=r23.2.2.2.1
    let b28:=r23.2.2.2.2
    bd (f57 n n24 l25 n26 l27 n13 l14 n15 l16) fun r29 =>
    let b30:=r29
    br (!b30) (
     some false) (
     br (!(b28==b17)) (
      some false) (
      bd (f56 n n1 l2 n3 l4) fun r31 =>
      let n32:=r31.1
      let l33:=r31.2.1
      let n34:=r31.2.2.1
      let l35:=r31.2.2.2
      bd (f57 n n19 l20 n21 l22 n32 l33 n34 l35) fun r36 =>
      let b37:=r36
      br (!b37) (
       some false) (
       bd (f58 n n19 l20 n21 l22 (1:Int)) fun r38 =>
       let i39:=r38.1
       br (decide (i39<(0:Int))) (
        some false) (
        bd (f57 n n24 l25 n26 l27 n13 l14 n15 l16) fun r44 =>
        let b45:=r44
        br (!b45) (
         some false) (
         br (!(b28==b17)) (
          some false) (
          bd (f58 n n24 l25 n26 l27 (1:Int)) fun r46 =>
          let i47:=r46.1
          let n48:=r46.2.1
          let l49:=r46.2.2.1
          let n50:=r46.2.2.2.1
          let l51:=r46.2.2.2.2
          bd (f59 n n48 l49 n50 l51 (1:Int)) fun r52 =>
          let i53:=r52
          br (decide (i53<(0:Int))) (
           some false) (
           br (i53 != i47) (
            some false) (
            bd (f56 n n1 l2 n3 l4) fun r54 =>
            let n55:=r54.1
            let l56:=r54.2.1
            let n57:=r54.2.2.1
            let l58:=r54.2.2.2
            bd (f63 n n55 l56 n57 l58) fun r59 =>
            let n60:=r59.1
            let l61:=r59.2.1
            let n62:=r59.2.2.1
            let l63:=r59.2.2.2.1
            let b64:=r59.2.2.2.2
            bd (f57 n n60 l61 n62 l63 n13 l14 n15 l16) fun r65 =>
            let b66:=r65
            br (!b66) (
             some false) (
             br (!(b64==b17)) (
              some false) (
              bd (f59 n n48 l49 n50 l51 (1:Int)) fun r67 =>
              let i68:=r67
              br (decide (i68<(0:Int))) (
               some false) (
               br (i68 != i47) (
                some false) (
                some true)))))))))))))
def f11.P:List Arg:=[qA23]
def f11.A:RAlt (Bool):=.one ⟨[qV14],[none]⟩ sg_b
def f11.F (n:Nat) (v:Nat × List T × Nat × List T):=f11 n v.1 v.2.1 v.2.2.1 v.2.2.2
def f11.O (n:Nat):Orc:=orcOf (E:=E) [f55.w,f56.w,f62.w,f63.w,f57.w,f58.w,f59.w] [] n
theorem f11.ok:FnS 11 f11.P sg_ll f11.A f11.F:=fnS c11 f11.O
def f11.w:FnW E:=fnW 11 f11.P sg_ll f11.A f11.F f11.ok
end Go.Proofs.Ytdobhipbgpiceaa.D
end
section
namespace Go.Proofs.Ytdobhipbgpiceaa.D
open Go Go.Desk
set_option linter.unusedVariables false
theorem s_few (n k:Nat) (l:List T):f148 (n+1) k l=some (decide ((k:Int)≤256)):=by rw[f148]
theorem i_few (n k:Nat) (l:List T):f66 (n+1) k l=some (decide ((k:Int)≤256)):=by rw[f66]
theorem s_in (n:Nat) (a b c:Int):f106 (n+1) a b c=some (decide (b≤a∧a≤c)):=by
 rw[f106]
 by_cases h:b≤a <;>simp[br,h]
theorem i_in (n:Nat) (a b c:Int):f67 (n+1) a b c=some (decide (b≤a∧a≤c)):=by
 rw[f67]
 by_cases h:b≤a <;>simp[br,h]
theorem i_zeroed (n k:Nat) (h:k≤2147483648):f91 (n+1) (k:Int)=some (k,fls .f32 (List.replicate k 0)):=by
 rw[f91,decide_eq_true (show (0:Int)≤(k:Int)∧(k:Int)≤2147483648 by omega),gd_t,Int.toNat_natCast,reps_fls]
theorem i_copy (n:Nat) (xs:List Nat) (h:xs.length≤2147483648):f84 (n+1) xs.length (fls .f32 xs)=some (xs.length,fls .f32 xs):=by
 rw[f84,Nat.zero_add,le_ble h];rfl
theorem i_sized (n:Nat) (x:Int):f87 (n+1) x=some x:=by rw[f87]
theorem i_finite (n:Nat) (x:Nat):f174 (n+1) x=some (fin32 x):=by rw[f174,sub_finite]
def peakM (m:Nat) (xs:List Nat):Nat:=xs.foldl (fun m x=>if fgt .f32 (size32 x) m then size32 x else m) m
def clipM (lim x:Nat):Nat:=if fgt .f32 (size32 x) lim then (if flt .f32 x 0 then negF .f32 lim else lim) else x
def limT (lim p:Nat):Nat:=if fgt .f32 p lim then fdiv .f32 lim p else 1065353216
def limG (t gn:Nat):Nat:=if flt .f32 t gn then t else if fne .f32 gn gn then t else gn
def limStep (lim rise:Nat) (s:Nat × List Nat) (x:Nat):Nat × (Nat × List Nat) :=
 (clipM lim (fmul .f32 ((s.2++[x]).getD 0 0) (limG (limT lim (peakM 0 (s.2++[x]))) (fadd .f32 s.1 rise))),(limG (limT lim (peakM 0 (s.2++[x]))) (fadd .f32 s.1 rise),(s.2++[x]).drop 1))
theorem i_islimit (n:Nat) (lim:Nat):f137 (n+2) lim=some (fin32 lim&&fgt .f32 lim 0):=by
 rw[f137,i_finite]
 cases fin32 lim <;>rfl
structure Eff where
 kind:Int
 len:Int
 nums:List Nat
def effC (e:Eff):List T:=[.int .i64 e.kind,.int .i64 e.len,.lst e.nums.length (fls .f32 e.nums)]
def effs (es:List Eff):List T:=es.flatMap effC
def eAt (es:List Eff) (i:Nat):Eff:=es.getD i ⟨5,0,[]⟩
theorem eff_get {c:Nat} (hc:c<3):∀ (ts:List Eff) (i:Nat),i<ts.length→(effs ts)[i * 3+c]?=(effC (eAt ts i))[c]?
 | [],i,h=>by simp at h
 | t::ts,0,_=>by
   show (effC t++effs ts)[0 * 3+c]?=_
   rw[List.getElem?_append_left (by simp[effC];omega),Nat.zero_mul,Nat.zero_add];rfl
 | t::ts,i+1,h=>by
   show (effC t++effs ts)[(i+1) * 3+c]?=_
   rw[List.getElem?_append_right (by simp[effC];omega),show (i+1) * 3+c - (effC t).length=i * 3+c by simp[effC];omega,eff_get hc ts i (by simpa using h)]
   rfl
section
variable {ts:List Eff} {i:Nat} (h:i<ts.length)
include h
theorem okE:okAt [.int .i64,.int .i64,.lst] (effs ts) (i * 3+0)=true:=by
 have h0:=eff_get (c:=0) (by decide) ts i h
 have h1:=eff_get (c:=1) (by decide) ts i h
 have h2:=eff_get (c:=2) (by decide) ts i h
 simp only[effC,List.getElem?_cons_zero,List.getElem?_cons_succ] at h0 h1 h2
 rw[Nat.add_zero] at h0
 simp[okAt,Nat.add_assoc,h0,h1,h2,isCK]
theorem kE:iAt (effs ts) (i * 3+0)=(eAt ts i).kind:=by unfold iAt;rw[eff_get (c:=0) (by decide) ts i h];rfl
theorem gE:iAt (effs ts) (i * 3+0+1)=(eAt ts i).len:=by unfold iAt;rw[show i * 3+0+1=i * 3+1 from rfl,eff_get (c:=1) (by decide) ts i h];rfl
theorem nE:nAt (effs ts) (i * 3+0+1+1)=(eAt ts i).nums.length:=by unfold nAt;rw[show i * 3+0+1+1=i * 3+2 from rfl,eff_get (c:=2) (by decide) ts i h];rfl
theorem lE:lAt (effs ts) (i * 3+0+1+1)=fls .f32 (eAt ts i).nums:=by unfold lAt;rw[show i * 3+0+1+1=i * 3+2 from rfl,eff_get (c:=2) (by decide) ts i h];rfl
theorem eff_drop:ts.drop i=eAt ts i::ts.drop (i+1):=by
 rw[List.drop_eq_getElem_cons h]
 simp[eAt,List.getD,h]
theorem eAt_mem:eAt ts i∈ts:=by
 have:eAt ts i=ts[i]:=by simp[eAt,List.getD,h]
 rw[this];exact List.getElem_mem h
end
theorem push_eff (acc:List Eff) (e:Eff):effs acc++setN (reps 1 [(T.int .i64 (0:Int)),(T.int .i64 (0:Int)),(T.lst 0 [])]) 0 (effC e)=effs (acc++[e]):=by
 unfold effs
 rw[List.flatMap_append,List.flatMap_singleton];rfl
inductive Ef
 | scale (g:Nat)
 | filt (f1 f2 f3 f4 f5:Nat)
 | echo (L:Nat) (p q:Nat)
 | squeeze (p q r s:Nat)
 | clip (g:Nat)
 | bend
 | lim (A:Nat) (l:Nat) (r:Nat)
def Ef.eff:Ef→Eff
 | .scale g=>⟨0,0,[g]⟩
 | .filt a b c d e=>⟨1,0,[a,b,c,d,e]⟩
 | .echo L p q=>⟨2,(L:Int),[p,q]⟩
 | .squeeze p q r s=>⟨3,0,[p,q,r,s]⟩
 | .clip g=>⟨4,0,[g]⟩
 | .bend=>⟨5,0,[]⟩
 | .lim A l r=>⟨6,(A:Int),[l,r]⟩
def Ef.Ok:Ef→Prop
 | .echo L _ _=>1≤L∧L≤32
 | .lim A l _=>A≤32∧W32 l∧(fin32 l&&fgt .f32 l 0)=true
 | .clip g=>W32 g
 | _=>True
def effL (es:List Ef):List Eff:=es.map (·.eff)
def row (ls:List (List Nat)) (i:Nat):List Nat:=ls.getD i []
section
variable {ls:List (List Nat)} {i:Nat} (h:i<ls.length)
include h
end
theorem row_set {ls:List (List Nat)} {i j:Nat} {r:List Nat} (hj:j<ls.length):row (ls.set i r) j=if i=j then r else row ls j:=by
 unfold row
 by_cases h:i=j
 ·subst h;simp[List.getD,hj]
 ·simp[List.getD,h,List.getElem?_set_ne]
def Ef.keep:Ef→Nat
 | .scale _=>0
 | .filt .. =>2
 | .echo L _ _=>L
 | .squeeze .. =>1
 | .clip _=>0
 | .bend=>0
 | .lim A _ _=>A+1
def efAt (es:List Ef) (i:Nat):Ef:=es.getD i .bend
theorem effL_length (es:List Ef):(effL es).length=es.length:=by simp[effL]
def Sok (es:List Ef) (ls:List (List Nat)):Prop:=ls.length=es.length∧∀ i,i<ls.length→(row ls i).length=(efAt es i).keep∧(∀ y∈row ls i,W32 y)
theorem Sok.set {es:List Ef} {ls:List (List Nat)} (h:Sok es ls) {i:Nat} {r:List Nat} (hi:i<ls.length) (hr:r.length=(efAt es i).keep) (hw:∀ y∈r,W32 y):Sok es (ls.set i r):=by
 refine ⟨by rw[List.length_set];exact h.1,fun j hj => ?_⟩
 rw[List.length_set] at hj
 rw[row_set hj]
 by_cases e:i=j
 ·subst e;rw[if_pos rfl];exact ⟨hr,hw⟩
 ·rw[if_neg e];exact h.2 j hj
def bendM (x:Nat):Nat:=if fge .f32 x 1065353216=true then 1065353216 else if fle .f32 x 3212836864=true then 3212836864 else fmul .f32 x (fsub .f32 1069547520 (fmul .f32 1056964608 (fmul .f32 x x)))
def echoStep (p q:Nat) (w:List Nat) (x:Nat):Nat × List Nat:=(fadd .f32 x (fmul .f32 q (headM w)),tookM w (flushM (fadd .f32 x (fmul .f32 p (headM w)))))
section
variable {σ τ α β:Type}
end
def Ef.step:Ef→List Nat→Nat→Nat × List Nat
 | .scale g,_,x=>(fmul .f32 x g,[])
 | .filt a b c d e,w,x=>((fstep (a,b,c,d,e) 1 true (w.getD 0 0,w.getD 1 0,0,0) x).1,[(fstep (a,b,c,d,e) 1 true (w.getD 0 0,w.getD 1 0,0,0) x).2.1,(fstep (a,b,c,d,e) 1 true (w.getD 0 0,w.getD 1 0,0,0) x).2.2.1])
 | .echo L p q,w,x=>echoStep p q w x
 | .squeeze a r t q,w,x=>((duckStep a r t q (w.getD 0 0) (x,x)).1,[(duckStep a r t q (w.getD 0 0) (x,x)).2])
 | .clip g,_,x=>(clipM g x,[])
 | .bend,_,x=>(bendM x,[])
 | .lim A k r,w,x=>((limStep k r (w.getD 0 0,w.drop 1) x).1,(limStep k r (w.getD 0 0,w.drop 1) x).2.1::(limStep k r (w.getD 0 0,w.drop 1) x).2.2)
def Fit (e:Ef) (w:List Nat):Prop:=w.length=e.keep∧AllW w
def Fits:List Ef→List (List Nat)→Prop
 | e::es,w::ls=>Fit e w∧Fits es ls
 | [],[]=>True
 | _,_=>False
theorem Fits.len:∀ {es:List Ef} {ls:List (List Nat)},Fits es ls→ls.length=es.length
 | [],[],_=>rfl
 | _::_,_::_,h=>by simp[h.2.len]
 | [],_::_,h=>h.elim
 | _::_,[],h=>h.elim
theorem Fits.at:∀ {es:List Ef} {ls:List (List Nat)},Fits es ls→∀ i,i<es.length→Fit (efAt es i) (row ls i)
 | [],[],_,i,hi=>by simp at hi
 | _::_,_::_,h,0,_=>h.1
 | _::_,_::_,h,i+1,hi=>h.2.at i (by simpa using hi)
 | [],_::_,h,_,_=>h.elim
 | _::_,[],h,_,_=>h.elim
theorem s_limitB (n:Nat) (l:Nat):f194 (n+2) l=some (fin32 l&&fgt .f32 l 0):=by
 have e:f205 (n+1) l=some (fin32 l):=by rw[f205,sub_finite]
 rw[f194,e]
 cases fin32 l <;>rfl
def effB (e:Eff):Bool :=
 if e.kind=0∨e.kind=4 then decide (e.len=0∧e.nums.length=1)
 else if e.kind=1 then decide (e.len=0∧e.nums.length=5)
 else if e.kind=2 then decide ((1≤e.len∧e.len≤32)∧e.nums.length=2)
 else if e.kind=3 then decide (e.len=0∧e.nums.length=4)
 else if e.kind=5 then decide (e.len=0∧e.nums.length=0)
 else if e.kind=6 then decide ((0≤e.len∧e.len≤32)∧e.nums.length=2)&&(fin32 (e.nums.getD 0 0)&&fgt .f32 (e.nums.getD 0 0) 0)
 else false
theorem i_hasB (n:Nat) (a b:Int) (c:Nat) (l:List T) (lo hi k:Int):f136 (n+2) a b c l lo hi k=some (decide (lo≤b∧b≤hi)&&((c:Int)==k)):=by
 rw[f136,i_in]
 simp only[bd_s]
 cases decide (lo≤b∧b≤hi) <;>rfl
theorem kind_cases (k:Int):k=0∨k=1∨k=2∨k=3∨k=4∨k=5∨k=6∨((k==0)=false∧(k==1)=false∧(k==2)=false∧(k==3)=false∧(k==4)=false∧(k==5)=false∧(k==6)=false):=by
 simp only[beq_eq_false_iff_ne];omega
theorem has_dec (b:Int) (c:Nat) (k:Nat):(decide ((0:Int)≤b∧b≤0)&&((c:Int)==(k:Int)))=decide (b=0∧c=k):=by
 rw[Bool.eq_iff_iff];simp;omega
theorem i_effB (n:Nat) (e:Eff):f76 (n+4) e.kind e.len e.nums.length (fls .f32 e.nums)=some (effB e):=by
 obtain ⟨k,b,l⟩:=e
 rw[f76]
 unfold effB
 simp only[i_hasB (n+1)]
 rcases kind_cases k with rfl | rfl | rfl | rfl | rfl | rfl | rfl | ⟨h0,h1,h2,h3,h4,h5,h6⟩
 ·have:=has_dec b l.length 1
  simp only[beq_self_eq_true,br_t,bd_s]
  rw[show ((1:Nat):Int)=1 from rfl] at this
  rw[this];rfl
 ·have:=has_dec b l.length 5
  simp only[show ((1:Int)==0)=false from rfl,show ((1:Int)==4)=false from rfl,beq_self_eq_true,br_t,br_f,bd_s]
  rw[show ((5:Nat):Int)=5 from rfl] at this
  rw[this];rfl
 ·simp only[show ((2:Int)==0)=false from rfl,show ((2:Int)==4)=false from rfl,show ((2:Int)==1)=false from rfl,beq_self_eq_true,br_t,br_f,bd_s]
  congr 1
  rw[if_neg (by decide),if_neg (by decide),if_pos trivial,Bool.eq_iff_iff];simp;omega
 ·have:=has_dec b l.length 4
  simp only[show ((3:Int)==0)=false from rfl,show ((3:Int)==4)=false from rfl,show ((3:Int)==1)=false from rfl,show ((3:Int)==2)=false from rfl,beq_self_eq_true,br_t,br_f,bd_s]
  rw[show ((4:Nat):Int)=4 from rfl] at this
  rw[this];rfl
 ·have:=has_dec b l.length 1
  simp only[show ((4:Int)==0)=false from rfl,beq_self_eq_true,br_t,br_f,bd_s]
  rw[show ((1:Nat):Int)=1 from rfl] at this
  rw[this];rfl
 ·have:=has_dec b l.length 0
  simp only[show ((5:Int)==0)=false from rfl,show ((5:Int)==4)=false from rfl,show ((5:Int)==1)=false from rfl,show ((5:Int)==2)=false from rfl,show ((5:Int)==3)=false from rfl,beq_self_eq_true,br_t,br_f,bd_s]
  rw[show ((0:Nat):Int)=0 from rfl] at this
  rw[this];rfl
 ·simp only[show ((6:Int)==0)=false from rfl,show ((6:Int)==4)=false from rfl,show ((6:Int)==1)=false from rfl,show ((6:Int)==2)=false from rfl,show ((6:Int)==3)=false from rfl,show ((6:Int)==5)=false from rfl,beq_self_eq_true,br_t,br_f,bd_s]
  rw[if_neg (by decide),if_neg (by decide),if_neg (by decide),if_neg (by decide),if_neg (by decide),if_pos trivial]
  by_cases hv:(0≤b∧b≤32)∧l.length=2
  ·rw[decide_eq_true hv.1,decide_eq_true hv,show (((l.length:Nat):Int)==2)=true by rw[hv.2];rfl,decide_eq_true (show (0:Int)≤0∧(0:Int)<((l.length:Nat):Int) by omega),okAt_fls (by omega)]
   simp only[Bool.and_self,br_t,gd_t,i_islimit,bd_s,fAt_fls,Bool.true_and]
  ·rw[decide_eq_false hv]
   have:(decide (0≤b∧b≤32)&&(((l.length:Nat):Int)==2))=false:=by
    rw[Bool.eq_false_iff];intro h;apply hv;simp at h;omega
   rw[this];rfl
 ·simp only[h0,h1,h2,h3,h4,h5,h6,br_f]
  simp only[beq_eq_false_iff_ne] at h0 h1 h2 h3 h4 h5 h6
  rw[if_neg (by simp[h0,h4]),if_neg h1,if_neg h2,if_neg h3,if_neg h5,if_neg h6]
theorem s_effB (n:Nat) (e:Eff):f177 (n+4) e.kind e.len e.nums.length (fls .f32 e.nums)=some (effB e):=by
 obtain ⟨k,b,l⟩:=e
 rw[f177]
 unfold effB
 simp only[s_in (n+2)]
 have cut:∀ (lo hi:Int) (c d:Int) (v:Option Bool),f133 (n+3) k b=some (c,d) →
   (bd (some (decide (lo≤b∧b≤hi))) fun r=>br (!r) (some false) (bd (f133 (n+3) k b) fun r7=>br (((l.length:Nat):Int)==r7.1) v (some false)))=br (decide (lo≤b∧b≤hi)&&(((l.length:Nat):Int)==c)) v (some false):=by
  intro lo hi c d v h
  rw[h]
  simp only[bd_s]
  cases decide (lo≤b∧b≤hi) <;>rfl
 rcases kind_cases k with rfl | rfl | rfl | rfl | rfl | rfl | rfl | ⟨h0,h1,h2,h3,h4,h5,h6⟩
 ·have c:=cut 0 0 1 0 (some true) (by rw[f133];rfl)
  have:=has_dec b l.length 1
  rw[show ((1:Nat):Int)=1 from rfl] at this
  simp only[show ((0:Int)==2)=false from rfl,show ((0:Int)==6)=false from rfl,br_f,show ((0:Int) != 6)=true from rfl,br_t]
  refine c.trans ?_
  rw[this]
  show br (decide (b=0∧l.length=1)) (some true) (some false)=some (decide (b=0∧l.length=1))
  cases decide (b=0∧l.length=1) <;>rfl
 ·have c:=cut 0 0 5 2 (some true) (by rw[f133];rfl)
  have:=has_dec b l.length 5
  rw[show ((5:Nat):Int)=5 from rfl] at this
  simp only[show ((1:Int)==2)=false from rfl,show ((1:Int)==6)=false from rfl,br_f,show ((1:Int) != 6)=true from rfl,br_t]
  refine c.trans ?_
  rw[this]
  show br (decide (b=0∧l.length=5)) (some true) (some false)=some (decide (b=0∧l.length=5))
  cases decide (b=0∧l.length=5) <;>rfl
 ·have c:=cut 1 32 2 b (some true) (by rw[f133];rfl)
  simp only[beq_self_eq_true,show ((2:Int)==6)=false from rfl,br_f,show ((2:Int) != 6)=true from rfl,br_t]
  refine c.trans ?_
  have e:(decide (1≤b∧b≤32)&&(((l.length:Nat):Int)==2))=decide ((1≤b∧b≤32)∧l.length=2):=by rw[Bool.eq_iff_iff];simp;omega
  rw[e,if_neg (by decide),if_neg (by decide),if_pos trivial]
  cases decide ((1≤b∧b≤32)∧l.length=2) <;>rfl
 ·have c:=cut 0 0 4 1 (some true) (by rw[f133];rfl)
  have:=has_dec b l.length 4
  rw[show ((4:Nat):Int)=4 from rfl] at this
  simp only[show ((3:Int)==2)=false from rfl,show ((3:Int)==6)=false from rfl,br_f,show ((3:Int) != 6)=true from rfl,br_t]
  refine c.trans ?_
  rw[this]
  show br (decide (b=0∧l.length=4)) (some true) (some false)=some (decide (b=0∧l.length=4))
  cases decide (b=0∧l.length=4) <;>rfl
 ·have c:=cut 0 0 1 0 (some true) (by rw[f133];rfl)
  have:=has_dec b l.length 1
  rw[show ((1:Nat):Int)=1 from rfl] at this
  simp only[show ((4:Int)==2)=false from rfl,show ((4:Int)==6)=false from rfl,br_f,show ((4:Int) != 6)=true from rfl,br_t]
  refine c.trans ?_
  rw[this]
  show br (decide (b=0∧l.length=1)) (some true) (some false)=some (decide (b=0∧l.length=1))
  cases decide (b=0∧l.length=1) <;>rfl
 ·have c:=cut 0 0 0 0 (some true) (by rw[f133];rfl)
  have:=has_dec b l.length 0
  rw[show ((0:Nat):Int)=0 from rfl] at this
  simp only[show ((5:Int)==2)=false from rfl,show ((5:Int)==6)=false from rfl,br_f,show ((5:Int) != 6)=true from rfl,br_t]
  refine c.trans ?_
  rw[this]
  show br (decide (b=0∧l.length=0)) (some true) (some false)=some (decide (b=0∧l.length=0))
  cases decide (b=0∧l.length=0) <;>rfl
 ·have c:=fun v=>cut 0 32 2 (IntKind.i64.wrap (1+b)) v (by rw[f133];rfl)
  simp only[show ((6:Int)==2)=false from rfl,beq_self_eq_true,br_f,show ((6:Int) != 6)=false from rfl,br_t]
  refine (c _).trans ?_
  have e:(decide (0≤b∧b≤32)&&(((l.length:Nat):Int)==2))=decide ((0≤b∧b≤32)∧l.length=2):=by rw[Bool.eq_iff_iff];simp;omega
  rw[e,if_neg (by decide),if_neg (by decide),if_neg (by decide),if_neg (by decide),if_neg (by decide),if_pos trivial]
  by_cases hv:(0≤b∧b≤32)∧l.length=2
  ·rw[decide_eq_true hv,decide_eq_true (show (0:Int)≤0∧(0:Int)<((l.length:Nat):Int) by omega),okAt_fls (by omega),s_limitB (n+1)]
   simp only[Bool.and_self,br_t,gd_t,bd_s,fAt_fls,Bool.true_and]
  ·rw[decide_eq_false hv];rfl
 ·have hc:f133 (n+3) k b=some (-1,-1):=by
   rw[f133];simp only[h0,h1,h2,h3,h4,h5,h6,br_f]
  have c:=fun v=>cut 0 0 (-1) (-1) v hc
  simp only[h2,h6,br_f]
  refine (c _).trans ?_
  simp only[beq_eq_false_iff_ne] at h0 h1 h2 h3 h4 h5 h6
  rw[if_neg (by simp[h0,h4]),if_neg h1,if_neg h2,if_neg h3,if_neg h5,if_neg h6,show (((l.length:Nat):Int) == -1)=false by rw[beq_eq_false_iff_ne];omega,Bool.and_false]
  rfl
def GoodE (e:Eff):Prop:=GoodI .i64 e.kind∧GoodI .i64 e.len∧(∀ x∈e.nums,W32 x)
theorem ef_of {e:Eff} (h:effB e=true) (hw:∀ x∈e.nums,W32 x):∃ f:Ef,f.Ok∧f.eff=e:=by
 obtain ⟨k,b,l⟩:=e
 unfold effB at h
 simp only at h hw
 split at h
 ·rename_i hk
  simp only[decide_eq_true_eq] at h
  obtain ⟨rfl,hl⟩:=h
  match l,hl with
  | [g],_ =>
    rcases hk with rfl | rfl
    ·exact ⟨.scale g,trivial,rfl⟩
    ·exact ⟨.clip g,hw g (by simp),rfl⟩
 ·split at h
  ·rename_i _ hk
   subst hk
   simp only[decide_eq_true_eq] at h
   obtain ⟨rfl,hl⟩:=h
   match l,hl with
   | [a,b,c,d,e],_=>exact ⟨.filt a b c d e,trivial,rfl⟩
  ·split at h
   ·rename_i _ _ hk
    subst hk
    simp only[decide_eq_true_eq] at h
    obtain ⟨⟨h1,h2⟩,hl⟩:=h
    obtain ⟨L,rfl⟩:=Int.eq_ofNat_of_zero_le (show 0≤b by omega)
    match l,hl with
    | [p,q],_=>exact ⟨.echo L p q,⟨by omega,by omega⟩,rfl⟩
   ·split at h
    ·rename_i _ _ _ hk
     subst hk
     simp only[decide_eq_true_eq] at h
     obtain ⟨rfl,hl⟩:=h
     match l,hl with
     | [a,b,c,d],_=>exact ⟨.squeeze a b c d,trivial,rfl⟩
    ·split at h
     ·rename_i _ _ _ _ hk
      subst hk
      simp only[decide_eq_true_eq] at h
      obtain ⟨rfl,hl⟩:=h
      match l,hl with
      | [],_=>exact ⟨.bend,trivial,rfl⟩
     ·split at h
      ·rename_i _ _ _ _ _ hk
       subst hk
       rw[Bool.and_eq_true,decide_eq_true_eq] at h
       obtain ⟨⟨⟨h1,h2⟩,hl⟩,hlim⟩:=h
       obtain ⟨A,rfl⟩:=Int.eq_ofNat_of_zero_le h1
       match l,hl with
       | [p,q],_=>exact ⟨.lim A p q,⟨by omega,hw p (by simp),hlim⟩,rfl⟩
      ·cases h
def chainB (cs:List Eff):Bool:=decide (cs.length≤8)&&cs.all effB
theorem efs_of:∀ {cs:List Eff},cs.all effB=true→(∀ e∈cs,GoodE e)→∃ es:List Ef,effL es=cs∧∀ e∈es,e.Ok
 | [],_,_=>⟨[],rfl,by simp⟩
 | c::cs,h,hw=>by
   simp only[List.all_cons,Bool.and_eq_true] at h
   obtain ⟨f,h1,h2⟩:=ef_of h.1 (hw c (by simp)).2.2
   obtain ⟨es,h3,h4⟩:=efs_of h.2 (fun e he=>hw e (by simp[he]))
   refine ⟨f::es,by simp[effL] at h3 ⊢;exact ⟨h2,h3⟩,fun e he => ?_⟩
   rcases List.mem_cons.1 he with rfl | he
   ·exact h1
   ·exact h4 e he
theorem all_drop {cs:List Eff} {i:Nat} (h:i<cs.length):(cs.drop i).all effB=(effB (eAt cs i)&&(cs.drop (i+1)).all effB):=by
 rw[eff_drop h,List.all_cons]
theorem i_chainB_loop (n:Nat) (N:Nat) (ts:List T) (cs:List Eff) (hl:cs.length≤100):∀ (j i m:Nat),i+j=cs.length→j<m →
  f23.l0 (n+4) m N ts cs.length (effs cs) (cs.length:Int) (i:Int)=some (if (cs.drop i).all effB then Sum.inr () else Sum.inl false):=by
 intro j
 induction j with
 | zero =>
   intro i m hi hm
   obtain ⟨m,rfl⟩:∃ k,m=k+1:=⟨m - 1,by omega⟩
   rw[f23.l0,nlt_dec (by omega),List.drop_eq_nil_of_le (by omega)];rfl
 | succ j ih =>
   intro i m hi hm
   obtain ⟨m,rfl⟩:∃ k,m=k+1:=⟨m - 1,by omega⟩
   have h:i<cs.length:=by omega
   rw[f23.l0,lt_dec h,in_dec h,Int.toNat_natCast,okE h,all_drop h]
   simp only[br_t,Bool.and_self,gd_t,kE h,gE h,nE h,lE h,i_effB n (eAt cs i),bd_s,wrap_succ (show i<9223372036854775807 by omega)]
   cases effB (eAt cs i)
   ·rfl
   ·simp only[Bool.not_true,br_f,Bool.true_and]
    exact ih (i+1) m (by omega) (by omega)
theorem i_chainB (n:Nat) (cs:List Eff) (hn:100<n):f23 (n+5) cs.length (effs cs)=some (chainB cs):=by
 rw[f23]
 unfold chainB
 by_cases h:cs.length≤8
 ·have e:=i_chainB_loop n cs.length (effs cs) cs (by omega) cs.length 0 (n+4) (by omega) (by omega)
  have e:f23.l0 (n+4) (n+4) cs.length (effs cs) cs.length (effs cs) (cs.length:Int) 0=_:=e
  rw[decide_eq_false (by omega),e,decide_eq_true h,List.drop_zero]
  cases cs.all effB <;>rfl
 ·rw[decide_eq_true (by omega),decide_eq_false h];rfl
theorem s_chainB_loop (n:Nat) (cs:List Eff) (hl:cs.length≤8):∀ (j i m:Nat),i+j=cs.length→j<m →
  f146.l0 (n+4) m cs.length (effs cs) (i:Int)=some (if (cs.drop i).all effB then Sum.inr (cs.length,effs cs) else Sum.inl false):=by
 intro j
 induction j with
 | zero =>
   intro i m hi hm
   obtain ⟨m,rfl⟩:∃ k,m=k+1:=⟨m - 1,by omega⟩
   rw[f146.l0,nlt_dec (by omega),List.drop_eq_nil_of_le (by omega)];rfl
 | succ j ih =>
   intro i m hi hm
   obtain ⟨m,rfl⟩:∃ k,m=k+1:=⟨m - 1,by omega⟩
   have h:i<cs.length:=by omega
   rw[f146.l0,lt_dec h,in_dec h,Int.toNat_natCast,okE h,all_drop h,decide_eq_true (show (cs.length:Int)≤8 by omega)]
   simp only[br_t,Bool.and_self,gd_t,kE h,gE h,nE h,lE h,s_effB n (eAt cs i),bd_s,wrap_succ (show i<9223372036854775807 by omega)]
   cases effB (eAt cs i)
   ·rfl
   ·simp only[Bool.not_true,br_f,Bool.true_and]
    exact ih (i+1) m (by omega) (by omega)
theorem s_chainB (n:Nat) (cs:List Eff) (hn:100<n):f146 (n+5) cs.length (effs cs)=some (chainB cs):=by
 rw[f146]
 unfold chainB
 by_cases h:cs.length≤8
 ·have e:=s_chainB_loop n cs h cs.length 0 (n+4) (by omega) (by omega)
  have e:f146.l0 (n+4) (n+4) cs.length (effs cs) 0=_:=e
  rw[e,decide_eq_true h,List.drop_zero]
  cases cs.all effB
  ·rfl
  ·simp only[if_true,bd_s,sm_r,Bool.true_and,decide_eq_true (show (cs.length:Int)≤8 by omega)]
 ·have e:f146.l0 (n+4) (n+4) cs.length (effs cs) 0=some (Sum.inr (cs.length,effs cs)):=by
   rw[show n+4=(n+3)+1 from rfl,f146.l0,decide_eq_true (show (0:Int)<(cs.length:Int) by omega),decide_eq_false (show ¬ (cs.length:Int)≤8 by omega)]
   rfl
  rw[e,decide_eq_false h]
  simp only[bd_s,sm_r,Bool.false_and,decide_eq_false (show ¬ (cs.length:Int)≤8 by omega)]
structure Strp where
 es:List Eff
 tn:Int
 pan:Nat
 mute:Bool
 solo:Bool
def stC (s:Strp):List T:=[.lst s.es.length (effs s.es),.int .i64 s.tn,.flt .f32 s.pan,.bool s.mute,.bool s.solo]
def strps (ss:List Strp):List T:=ss.flatMap stC
def sAt5 (ss:List Strp) (i:Nat):Strp:=ss.getD i ⟨[],0,0,false,false⟩
theorem st_get {c:Nat} (hc:c<5):∀ (ts:List Strp) (i:Nat),i<ts.length→(strps ts)[i * 5+c]?=(stC (sAt5 ts i))[c]?
 | [],i,h=>by simp at h
 | t::ts,0,_=>by
   show (stC t++strps ts)[0 * 5+c]?=_
   rw[List.getElem?_append_left (by simp[stC];omega),Nat.zero_mul,Nat.zero_add];rfl
 | t::ts,i+1,h=>by
   show (stC t++strps ts)[(i+1) * 5+c]?=_
   rw[List.getElem?_append_right (by simp[stC];omega),show (i+1) * 5+c - (stC t).length=i * 5+c by simp[stC];omega,st_get hc ts i (by simpa using h)]
   rfl
section
variable {ts:List Strp} {i:Nat} (h:i<ts.length)
include h
theorem okS5:okAt [.lst,.int .i64,.flt .f32,.bool,.bool] (strps ts) (i * 5+0)=true:=by
 have h0:=st_get (c:=0) (by decide) ts i h
 have h1:=st_get (c:=1) (by decide) ts i h
 have h2:=st_get (c:=2) (by decide) ts i h
 have h3:=st_get (c:=3) (by decide) ts i h
 have h4:=st_get (c:=4) (by decide) ts i h
 simp only[stC,List.getElem?_cons_zero,List.getElem?_cons_succ] at h0 h1 h2 h3 h4
 rw[Nat.add_zero] at h0
 simp[okAt,Nat.add_assoc,h0,h1,h2,h3,h4,isCK]
theorem nS5:nAt (strps ts) (i * 5+0)=(sAt5 ts i).es.length:=by unfold nAt;rw[st_get (c:=0) (by decide) ts i h];rfl
theorem lS5:lAt (strps ts) (i * 5+0)=effs (sAt5 ts i).es:=by unfold lAt;rw[st_get (c:=0) (by decide) ts i h];rfl
theorem tS5:iAt (strps ts) (i * 5+0+1)=(sAt5 ts i).tn:=by unfold iAt;rw[show i * 5+0+1=i * 5+1 from rfl,st_get (c:=1) (by decide) ts i h];rfl
theorem pS5:fAt (strps ts) (i * 5+0+1+1)=(sAt5 ts i).pan:=by unfold fAt;rw[show i * 5+0+1+1=i * 5+2 from rfl,st_get (c:=2) (by decide) ts i h];rfl
theorem mS5:bAt (strps ts) (i * 5+0+1+1+1)=(sAt5 ts i).mute:=by unfold bAt;rw[show i * 5+0+1+1+1=i * 5+3 from rfl,st_get (c:=3) (by decide) ts i h];rfl
theorem oS5:bAt (strps ts) (i * 5+0+1+1+1+1)=(sAt5 ts i).solo:=by unfold bAt;rw[show i * 5+0+1+1+1+1=i * 5+4 from rfl,st_get (c:=4) (by decide) ts i h];rfl
theorem st_drop:ts.drop i=sAt5 ts i::ts.drop (i+1):=by
 rw[List.drop_eq_getElem_cons h]
 simp[sAt5,List.getD,h]
theorem sAt5_mem:sAt5 ts i∈ts:=by
 have:sAt5 ts i=ts[i]:=by simp[sAt5,List.getD,h]
 rw[this];exact List.getElem_mem h
end
def panB (x:Nat):Bool:=fge .f32 x 0&&fle .f32 x 1065353216
def stB (s:Strp):Bool:=chainB s.es&&(decide (-2000≤s.tn∧s.tn≤2000)&&panB s.pan)
def clB (n:Nat) (c:Eff):Bool:=decide (0≤c.kind∧c.kind≤(n:Int) - 1)&&(decide (0≤c.len∧c.len≤256)&&decide (c.nums.length≤256))
def sessB (cl:List Eff) (ss:List Strp):Bool:=decide (1≤ss.length∧ss.length≤8)&&(decide (cl.length≤12)&&(ss.all stB&&cl.all (clB ss.length)))
theorem i_panB (n x:Nat):f144 (n+1) x=some (panB x):=by
 rw[f144];unfold panB;cases fge .f32 x 0 <;>rfl
theorem s_panB (n x:Nat):f178 (n+1) x=some (panB x):=by
 rw[f178];unfold panB;cases fge .f32 x 0 <;>rfl
theorem i_tenths (n:Nat) (t:Int):f143 (n+2) t=some (decide (-2000≤t∧t≤2000)):=by rw[f143,i_in];rfl
theorem i_count (n:Nat) (t:Int):f81 (n+2) t=some (decide (0≤t∧t≤256)):=by rw[f81,i_in];rfl
theorem i_index (n:Nat) (t:Int) (k:Nat) (hk:k≤1099511627776):f83 (n+2) t (k:Int)=some (decide (0≤t∧t≤(k:Int) - 1)):=by
 rw[f83,show IntKind.i64.wrap ((k:Int) - 1)=(k:Int) - 1 by rw[wrap64] <;>omega,i_in];rfl
theorem i_nodes (n:Nat) (t:Int):f89 (n+2) t=some (decide (1≤t∧t≤8)):=by rw[f89,i_in];rfl
theorem st_all {ss:List Strp} {i:Nat} (h:i<ss.length):(ss.drop i).all stB=(stB (sAt5 ss i)&&(ss.drop (i+1)).all stB):=by
 rw[st_drop h,List.all_cons]
theorem cl_all {cs:List Eff} {i n:Nat} (h:i<cs.length):(cs.drop i).all (clB n)=(clB n (eAt cs i)&&(cs.drop (i+1)).all (clB n)):=by
 rw[eff_drop h,List.all_cons]
theorem i_st_loop (n:Nat) (hn:100<n) (N:Nat) (ts:List T) (M:Nat) (us:List T) (ss:List Strp) (hl:ss.length≤100):∀ (j i m:Nat),i+j=ss.length→j<m →
  f101.l0 (n+5) m N ts M us ss.length (strps ss) (ss.length:Int) (i:Int)=some (if (ss.drop i).all stB then Sum.inr (N,ts,M,us) else Sum.inl false):=by
 intro j
 induction j with
 | zero =>
   intro i m hi hm
   obtain ⟨m,rfl⟩:∃ k,m=k+1:=⟨m - 1,by omega⟩
   rw[f101.l0,nlt_dec (by omega),List.drop_eq_nil_of_le (by omega)];rfl
 | succ j ih =>
   intro i m hi hm
   obtain ⟨m,rfl⟩:∃ k,m=k+1:=⟨m - 1,by omega⟩
   have h:i<ss.length:=by omega
   rw[f101.l0,lt_dec h,in_dec h,Int.toNat_natCast,okS5 h,st_all h]
   simp only[br_t,Bool.and_self,gd_t,nS5 h,lS5 h,tS5 h,pS5 h,i_chainB n (sAt5 ss i).es hn,i_tenths (n+3),i_panB (n+4),bd_s,wrap_succ (show i<9223372036854775807 by omega)]
   unfold stB
   cases chainB (sAt5 ss i).es
   ·rfl
   ·cases decide (-2000≤(sAt5 ss i).tn∧(sAt5 ss i).tn≤2000)
    ·rfl
    ·cases panB (sAt5 ss i).pan
     ·rfl
     ·simp only[Bool.not_true,br_f,Bool.true_and]
      exact ih (i+1) m (by omega) (by omega)
theorem i_cl_loop (n:Nat) (N:Nat) (ts:List T) (M:Nat) (us:List T) (hM:M≤1000) (cs:List Eff) (hl:cs.length≤100):∀ (j i m:Nat),i+j=cs.length→j<m →
  f101.l1 (n+2) m N ts M us cs.length (effs cs) (cs.length:Int) (i:Int)=some (if (cs.drop i).all (clB M) then Sum.inr () else Sum.inl false):=by
 intro j
 induction j with
 | zero =>
   intro i m hi hm
   obtain ⟨m,rfl⟩:∃ k,m=k+1:=⟨m - 1,by omega⟩
   rw[f101.l1,nlt_dec (by omega),List.drop_eq_nil_of_le (by omega)];rfl
 | succ j ih =>
   intro i m hi hm
   obtain ⟨m,rfl⟩:∃ k,m=k+1:=⟨m - 1,by omega⟩
   have h:i<cs.length:=by omega
   have e3:decide (((eAt cs i).nums.length:Int)≤256)=decide ((eAt cs i).nums.length≤256):=by rw[decide_eq_decide];omega
   rw[f101.l1,lt_dec h,in_dec h,Int.toNat_natCast,okE h,cl_all h]
   simp only[br_t,Bool.and_self,gd_t,kE h,gE h,nE h,lE h,i_index n (eAt cs i).kind M (by omega),i_count n,i_few,e3,bd_s,wrap_succ (show i<9223372036854775807 by omega)]
   unfold clB
   cases decide (0≤(eAt cs i).kind∧(eAt cs i).kind≤(M:Int) - 1)
   ·rfl
   ·cases decide (0≤(eAt cs i).len∧(eAt cs i).len≤256)
    ·rfl
    ·cases decide ((eAt cs i).nums.length≤256)
     ·rfl
     ·simp only[Bool.not_true,br_f,Bool.true_and]
      exact ih (i+1) m (by omega) (by omega)
theorem i_sessB (n:Nat) (cl:List Eff) (ss:List Strp) (hn:200<n):f101 (n+6) cl.length (effs cl) ss.length (strps ss)=some (sessB cl ss):=by
 rw[f101,i_sized (n+4)]
 simp only[bd_s,i_nodes (n+3)]
 unfold sessB
 by_cases h1:1≤ss.length∧ss.length≤8
 ·rw[decide_eq_true h1,decide_eq_true (show (1:Int)≤(ss.length:Int)∧(ss.length:Int)≤8 by omega)]
  by_cases h2:cl.length≤12
  ·rw[decide_eq_true h2,decide_eq_false (show ¬ (cl.length:Int)>12 by omega)]
   have e1:=i_st_loop n (by omega) cl.length (effs cl) ss.length (strps ss) ss (by omega) ss.length 0 (n+5) (by omega) (by omega)
   have e1:f101.l0 (n+5) (n+5) cl.length (effs cl) ss.length (strps ss) ss.length (strps ss) (ss.length:Int) 0=_:=e1
   have e2:=i_cl_loop (n+3) cl.length (effs cl) ss.length (strps ss) (by omega) cl (by omega) cl.length 0 (n+5) (by omega) (by omega)
   have e2:f101.l1 (n+5) (n+5) cl.length (effs cl) ss.length (strps ss) cl.length (effs cl) (cl.length:Int) 0=_:=e2
   simp only[Bool.not_true,br_f,e1,List.drop_zero,Bool.true_and]
   cases ss.all stB
   ·rfl
   ·simp only[if_true,bd_s,sm_r,e2,List.drop_zero,Bool.true_and]
    cases cl.all (clB ss.length) <;>rfl
  ·rw[decide_eq_false h2,decide_eq_true (show (cl.length:Int)>12 by omega)];rfl
 ·rw[decide_eq_false h1,decide_eq_false (show ¬ ((1:Int)≤(ss.length:Int)∧(ss.length:Int)≤8) by omega)];rfl
theorem s_strip1 (n:Nat) (a:Nat) (b:List T) (c:Int) (d:Nat) (e f:Bool) (g:Nat) (h:List T):∃ x y,f145 (n+1) a b c d e f g h=some (g,h,c,d,e,f,x,y):=by
 rw[f145];exact ⟨_,_,rfl⟩
theorem s_tracks1 (n:Nat) (hn:10<n) (c:Int) (d:Nat) (e f:Bool):f147 (n+2) 1 (setN (reps 1 [(T.lst 0 []),(T.int .i64 (0:Int)),(T.flt .f32 0),(T.bool false),(T.bool false)]) 0 [(T.lst 0 (reps 0 [(T.flt .f32 0)])),(T.int .i64 c),(T.flt .f32 d),(T.bool e),(T.bool f)])=some (decide (-2000≤c∧c≤2000)&&panB d):=by
 obtain ⟨n,rfl⟩:∃ k,n=k+2:=⟨n - 2,by omega⟩
 have hs:setN (reps 1 [(T.lst 0 []),(T.int .i64 (0:Int)),(T.flt .f32 0),(T.bool false),(T.bool false)]) 0 [(T.lst 0 (reps 0 [(T.flt .f32 0)])),(T.int .i64 c),(T.flt .f32 d),(T.bool e),(T.bool f)]=[(T.lst 0 []),(T.int .i64 c),(T.flt .f32 d),(T.bool e),(T.bool f)]:=rfl
 have l1:f147.l0 (n+2+1) (n+2+1) 1 [(T.lst 0 []),(T.int .i64 c),(T.flt .f32 d),(T.bool e),(T.bool f)] ((1:Nat):Int) 0=some (if decide (-2000≤c∧c≤2000)&&panB d then Sum.inr (1,[(T.lst 0 []),(T.int .i64 c),(T.flt .f32 d),(T.bool e),(T.bool f)]) else Sum.inl false):=by
  rw[f147.l0]
  have k0:decide ((0:Int)<((1:Nat):Int))=true:=rfl
  have k1:decide ((0:Int)≤0∧(0:Int)<((1:Nat):Int))=true:=rfl
  have k2:okAt [.lst,.int .i64,.flt .f32,.bool,.bool] [(T.lst 0 []),(T.int .i64 c),(T.flt .f32 d),(T.bool e),(T.bool f)] (Int.toNat 0 * 5+0)=true:=rfl
  have k3:nAt [(T.lst 0 []),(T.int .i64 c),(T.flt .f32 d),(T.bool e),(T.bool f)] (Int.toNat 0 * 5+0)=0:=rfl
  have k4:iAt [(T.lst 0 []),(T.int .i64 c),(T.flt .f32 d),(T.bool e),(T.bool f)] (Int.toNat 0 * 5+0+1)=c:=rfl
  have k5:fAt [(T.lst 0 []),(T.int .i64 c),(T.flt .f32 d),(T.bool e),(T.bool f)] (Int.toNat 0 * 5+0+1+1)=d:=rfl
  rw[k0,k1,k2,k3,k4,k5]
  simp only[br_t,Bool.and_self,gd_t,s_few,bd_s,s_in,s_panB]
  cases decide (-2000≤c∧c≤2000)
  ·rfl
  ·cases panB d
   ·rfl
   ·show f147.l0 (n+2+1) (n+2) 1 _ ((1:Nat):Int) 1=_
    rw[f147.l0];rfl
 rw[hs,f147,l1]
 cases decide (-2000≤c∧c≤2000)&&panB d <;>rfl
theorem s_st_loop (n:Nat) (hn:100<n) (N:Nat) (ts:List T) (i5:Int) (ss:List Strp) (hl:ss.length≤100):∀ (j i m:Nat),i+j=ss.length→j<m →
  f105.l0 (n+5) m N ts ss.length (strps ss) i5 (ss.length:Int) (i:Int)=some (if (ss.drop i).all stB then Sum.inr (N,ts,ss.length,strps ss,i5) else Sum.inl false):=by
 intro j
 induction j with
 | zero =>
   intro i m hi hm
   obtain ⟨m,rfl⟩:∃ k,m=k+1:=⟨m - 1,by omega⟩
   rw[f105.l0,nlt_dec (by omega),List.drop_eq_nil_of_le (by omega)];rfl
 | succ j ih =>
   intro i m hi hm
   obtain ⟨m,rfl⟩:∃ k,m=k+1:=⟨m - 1,by omega⟩
   have h:i<ss.length:=by omega
   rw[f105.l0,lt_dec h,in_dec h,Int.toNat_natCast,okS5 h,st_all h]
   simp only[br_t,Bool.and_self,gd_t,nS5 h,lS5 h,tS5 h,pS5 h,mS5 h,oS5 h]
   obtain ⟨x,y,e1⟩:=s_strip1 (n+4) (sAt5 ss i).es.length (effs (sAt5 ss i).es) (sAt5 ss i).tn (sAt5 ss i).pan (sAt5 ss i).mute (sAt5 ss i).solo 0 (reps 0 [(T.flt .f32 0)])
   rw[e1]
   have e2:=s_tracks1 (n+3) (by omega) (sAt5 ss i).tn (sAt5 ss i).pan (sAt5 ss i).mute (sAt5 ss i).solo
   simp only[bd_s,s_chainB n (sAt5 ss i).es hn,e2,wrap_succ (show i<9223372036854775807 by omega)]
   unfold stB
   cases chainB (sAt5 ss i).es
   ·rfl
   ·cases decide (-2000≤(sAt5 ss i).tn∧(sAt5 ss i).tn≤2000)&&panB (sAt5 ss i).pan
    ·rfl
    ·simp only[Bool.not_true,br_f,Bool.true_and]
     exact ih (i+1) m (by omega) (by omega)
theorem s_cl_loop (n:Nat) (N:Nat) (ts:List T) (M:Nat) (hM:M≤1000) (cs:List Eff) (hl:cs.length≤100):∀ (j i m:Nat),i+j=cs.length→j<m →
  f105.l1 (n+2) m cs.length (effs cs) N ts (M:Int) (cs.length:Int) (i:Int)=some (if (cs.drop i).all (clB M) then Sum.inr () else Sum.inl false):=by
 intro j
 induction j with
 | zero =>
   intro i m hi hm
   obtain ⟨m,rfl⟩:∃ k,m=k+1:=⟨m - 1,by omega⟩
   rw[f105.l1,nlt_dec (by omega),List.drop_eq_nil_of_le (by omega)];rfl
 | succ j ih =>
   intro i m hi hm
   obtain ⟨m,rfl⟩:∃ k,m=k+1:=⟨m - 1,by omega⟩
   have h:i<cs.length:=by omega
   have e3:decide (((eAt cs i).nums.length:Int)≤256)=decide ((eAt cs i).nums.length≤256):=by rw[decide_eq_decide];omega
   rw[f105.l1,lt_dec h,in_dec h,Int.toNat_natCast,okE h,cl_all h,show IntKind.i64.wrap ((M:Int) - 1)=(M:Int) - 1 by rw[wrap64] <;>omega]
   simp only[br_t,Bool.and_self,gd_t,kE h,gE h,nE h,lE h,s_in (n+1),s_few,e3,bd_s,wrap_succ (show i<9223372036854775807 by omega)]
   unfold clB
   cases decide (0≤(eAt cs i).kind∧(eAt cs i).kind≤(M:Int) - 1)
   ·rfl
   ·cases decide (0≤(eAt cs i).len∧(eAt cs i).len≤256)
    ·rfl
    ·cases decide ((eAt cs i).nums.length≤256)
     ·rfl
     ·simp only[Bool.not_true,br_f,Bool.true_and]
      exact ih (i+1) m (by omega) (by omega)
theorem s_sessB (n:Nat) (cl:List Eff) (ss:List Strp) (hn:200<n):f105 (n+6) cl.length (effs cl) ss.length (strps ss)=some (sessB cl ss):=by
 rw[f105]
 simp only[bd_s,s_in (n+4)]
 unfold sessB
 by_cases h1:1≤ss.length∧ss.length≤8
 ·rw[decide_eq_true h1,decide_eq_true (show (1:Int)≤(ss.length:Int)∧(ss.length:Int)≤8 by omega)]
  by_cases h2:cl.length≤12
  ·rw[decide_eq_true h2,decide_eq_false (show ¬ (cl.length:Int)>12 by omega)]
   have e1:=s_st_loop n (by omega) cl.length (effs cl) (ss.length:Int) ss (by omega) ss.length 0 (n+5) (by omega) (by omega)
   have e1:f105.l0 (n+5) (n+5) cl.length (effs cl) ss.length (strps ss) (ss.length:Int) (ss.length:Int) 0=_:=e1
   have e2:=s_cl_loop (n+3) ss.length (strps ss) ss.length (by omega) cl (by omega) cl.length 0 (n+5) (by omega) (by omega)
   have e2:f105.l1 (n+5) (n+5) cl.length (effs cl) ss.length (strps ss) (ss.length:Int) (cl.length:Int) 0=_:=e2
   simp only[Bool.not_true,br_f,e1,List.drop_zero,Bool.true_and]
   cases ss.all stB
   ·rfl
   ·simp only[if_true,bd_s,sm_r,e2,List.drop_zero,Bool.true_and]
    cases cl.all (clB ss.length) <;>rfl
  ·rw[decide_eq_false h2,decide_eq_true (show (cl.length:Int)>12 by omega)];rfl
 ·rw[decide_eq_false h1,decide_eq_false (show ¬ ((1:Int)≤(ss.length:Int)∧(ss.length:Int)≤8) by omega)];rfl
def addAt (p:Int) (x:Nat) (out:List Nat):List Nat:=if 0≤p∧p<(out.length:Int) then out.set p.toNat (fadd .f32 (out.getD p.toNat 0) x) else out
def addClip:Int→List Nat→List Nat→List Nat
 | _,[],out=>out
 | p,x::xs,out=>addClip (p+1) xs (addAt p x out)
def trackGo (track frm:Int):List Eff→List Nat→List Nat
 | [],out=>out
 | c::cs,out=>trackGo track frm cs (if c.kind=track then addClip (c.len - frm) c.nums out else out)
theorem addAt_length (p:Int) (x:Nat) (out:List Nat):(addAt p x out).length=out.length:=by unfold addAt;split <;>simp
theorem addClip_length:∀ (xs:List Nat) (p:Int) (out:List Nat),(addClip p xs out).length=out.length
 | [],_,_=>rfl
 | x::xs,p,out=>by rw[addClip,addClip_length xs,addAt_length]
theorem trackGo_length (track frm:Int):∀ (cs:List Eff) (out:List Nat),(trackGo track frm cs out).length=out.length
 | [],_=>rfl
 | c::cs,out=>by
   rw[trackGo,trackGo_length track frm cs]
   split
   ·rw[addClip_length]
   ·rfl
theorem setN_flt {out:List Nat} {i y:Nat}:setN (fls .f32 out) i [T.flt .f32 y]=fls .f32 (out.set i y):=by rw[setN_one];simp[fls,List.map_set]
theorem i_samples_clip (n:Nat) (i1 i2:Int) (n4:Nat) (l5:List T) (n6:Nat) (l7:List T) (k:Nat) (i10:Int) (at_:Int) (n12:Nat) (l13:List T) (n14:Nat) (l15:List T) (i16 i17:Int) (hk:k≤100000) (ha : -10000000≤at_∧at_≤10000000) (hf : -10000000≤i2∧i2≤10000000) :
  ∀ (zs p out:List Nat) (m:Nat),out.length=k→p.length+zs.length<1048576→zs.length<m →
  f100.l1 (n+1) m i1 i2 (k:Int) n4 l5 n6 l7 k (fls .f32 out) i10 at_ n12 l13 n14 l15 i16 i17 (p++zs).length (fls .f32 (p++zs)) ((p++zs).length:Int) (p.length:Int) =
   some (i1,i2,(k:Int),n4,l5,n6,l7,k,fls .f32 (addClip (at_+(p.length:Int) - i2) zs out),n14,l15,i16,i17):=by
 intro zs
 induction zs with
 | nil =>
   intro p out m ho _ hm
   obtain ⟨m,rfl⟩:∃ k,m=k+1:=⟨m - 1,by simp at hm;omega⟩
   rw[f100.l1,lt_end];rfl
 | cons z zs ih =>
   intro p out m ho hp hm
   obtain ⟨m,rfl⟩:∃ k,m=k+1:=⟨m - 1,by simp at hm;omega⟩
   have hp':p.length<1048576:=by simp at hp;omega
   have w1:IntKind.i64.wrap (IntKind.i64.wrap (at_+(p.length:Int)) - i2)=at_+(p.length:Int) - i2:=by
    rw[wrap64 (x:=at_+(p.length:Int)) (by omega) (by omega),wrap64 (by omega) (by omega)]
   have w2:IntKind.i64.wrap ((k:Int) - 1)=(k:Int) - 1:=by rw[wrap64] <;>omega
   have w' :=wrap_len (z:=z) (p:=p) (show p.length<4611686018427387904 by omega)
   rw[f100.l1,lt_mid,in_mid,toNat_len,okAt_mid,fAt_mid]
   simp only[br_t,gd_t,Bool.and_self,w1,w2,i_in,bd_s,w']
   have hq:at_+((p++[z]).length:Int) - i2=at_+(p.length:Int) - i2+1:=by simp;omega
   rw[addClip]
   by_cases hc:0≤at_+(p.length:Int) - i2∧at_+(p.length:Int) - i2≤(k:Int) - 1
   ·obtain ⟨q,hq2⟩:=Int.eq_ofNat_of_zero_le hc.1
    have hqk:q<out.length:=by omega
    have step:=ih (p++[z]) (addAt (at_+(p.length:Int) - i2) z out) m (by rw[addAt_length];exact ho) (by simp at hp ⊢;omega) (by simp at hm;omega)
    rw[hq] at step
    have hadd:addAt (at_+(p.length:Int) - i2) z out=out.set q (fadd .f32 (out.getD q 0) z):=by
     unfold addAt;rw[hq2,if_pos (by omega)];rfl
    rw[hadd] at step ⊢
    rw[decide_eq_true hc,hq2] at *
    have g1:decide ((0:Int)≤(q:Int)∧(q:Int)<(k:Int))=true:=decide_eq_true (by omega)
    have g2:okAt [.flt .f32] (fls .f32 out) q=true:=okAt_fls hqk
    have g3:Nat.ble (q+1) (fls .f32 out).length=true:=by rw[fls_length];exact le_ble (by omega)
    simp only[br_t,g1,gd_t,Int.toNat_natCast,g2,g3,fAt_fls,setN_flt]
    simpa using step
   ·have step:=ih (p++[z]) (addAt (at_+(p.length:Int) - i2) z out) m (by rw[addAt_length];exact ho) (by simp at hp ⊢;omega) (by simp at hm;omega)
    have hadd:addAt (at_+(p.length:Int) - i2) z out=out:=by unfold addAt;rw[if_neg (by omega)]
    rw[hadd,hq] at step
    rw[hadd,decide_eq_false hc,br_f]
    simpa using step
theorem i_samples_loop (n:Nat) (track frm:Int) (N:Nat) (ts:List T) (M:Nat) (us:List T) (k:Nat) (hk:k≤100000) (hf : -10000000≤frm∧frm≤10000000) (cs:List Eff) (hl:cs.length≤100) (hcl:∀ c∈cs,(0≤c.len∧c.len≤256)∧c.nums.length≤256) (hn:300<n):∀ (j i m:Nat) (out:List Nat),i+j=cs.length→out.length=k→j<m →
  f100.l0 (n+1) m track frm (k:Int) N ts M us k (fls .f32 out) cs.length (effs cs) (cs.length:Int) (i:Int)=some (k,fls .f32 (trackGo track frm (cs.drop i) out)):=by
 intro j
 induction j with
 | zero =>
   intro i m out hi ho hm
   obtain ⟨m,rfl⟩:∃ k,m=k+1:=⟨m - 1,by omega⟩
   rw[f100.l0,nlt_dec (by omega),List.drop_eq_nil_of_le (by omega)];rfl
 | succ j ih =>
   intro i m out hi ho hm
   obtain ⟨m,rfl⟩:∃ k,m=k+1:=⟨m - 1,by omega⟩
   have h:i<cs.length:=by omega
   obtain ⟨c1,c2⟩:=hcl _ (eAt_mem h)
   rw[f100.l0,lt_dec h,in_dec h,Int.toNat_natCast,okE h,eff_drop h,trackGo]
   simp only[br_t,Bool.and_self,gd_t,kE h,gE h,nE h,lE h,bd_s,wrap_succ (show i<9223372036854775807 by omega)]
   by_cases hc:(eAt cs i).kind=track
   ·have e:=i_samples_clip n track frm N ts M us k (eAt cs i).kind (eAt cs i).len (eAt cs i).nums.length (fls .f32 (eAt cs i).nums) cs.length (effs cs) (cs.length:Int) (i:Int) hk (by omega) hf (eAt cs i).nums [] out (n+1) ho (by simp;omega) (by omega)
    have e:f100.l1 (n+1) (n+1) track frm (k:Int) N ts M us k (fls .f32 out) (eAt cs i).kind (eAt cs i).len (eAt cs i).nums.length (fls .f32 (eAt cs i).nums) cs.length (effs cs) (cs.length:Int) (i:Int) (eAt cs i).nums.length (fls .f32 (eAt cs i).nums) ((eAt cs i).nums.length:Int) 0=_:=e
    rw[show ((eAt cs i).kind != track)=false by simp[hc],if_pos hc]
    simp only[br_f,e,bd_s,List.length_nil,Int.natCast_zero,Int.add_zero,wrap_succ (show i<9223372036854775807 by omega)]
    exact ih (i+1) m _ (by omega) (by rw[addClip_length];exact ho) (by omega)
   ·rw[show ((eAt cs i).kind != track)=true by simp[hc],if_neg hc]
    simp only[br_t]
    exact ih (i+1) m out (by omega) ho (by omega)
theorem i_samples (n:Nat) (cs:List Eff) (M:Nat) (us:List T) (track frm:Int) (k:Nat) (hk:k≤100000) (hf : -10000000≤frm∧frm≤10000000) (hl:cs.length≤100) (hcl:∀ c∈cs,(0≤c.len∧c.len≤256)∧c.nums.length≤256) (hn:300<n) :
  f100 (n+2) cs.length (effs cs) M us track frm (k:Int)=some (k,fls .f32 (trackGo track frm cs (List.replicate k 0))):=by
 have e:=i_samples_loop n track frm cs.length (effs cs) M us k hk hf cs hl hcl hn cs.length 0 (n+1) (List.replicate k 0) (by omega) (by simp) (by omega)
 have e:f100.l0 (n+1) (n+1) track frm (k:Int) cs.length (effs cs) M us k (fls .f32 (List.replicate k 0)) cs.length (effs cs) (cs.length:Int) 0=_:=e
 rw[f100,i_zeroed n k (by omega)]
 simp only[bd_s,e,List.drop_zero]
theorem s_samples_clip (n:Nat) (N:Nat) (ts:List T) (M:Nat) (us:List T) (track:Int) (k:Nat) (i9 at_:Int) (i13 i14:Int) (hk:k≤100000) (ha:0≤at_∧at_≤10000000) :
  ∀ (zs p out:List Nat) (m:Nat),out.length=k→p.length+zs.length<1048576→zs.length<m →
  f126.l1 n m N ts M us track (k:Int) k (fls .f32 out) i9 at_ (p++zs).length (fls .f32 (p++zs)) i13 i14 ((p++zs).length:Int) (p.length:Int) =
   some (N,ts,M,us,track,(k:Int),k,fls .f32 (addClip (at_+(p.length:Int)) zs out),i13,i14):=by
 intro zs
 induction zs with
 | nil =>
   intro p out m ho _ hm
   obtain ⟨m,rfl⟩:∃ k,m=k+1:=⟨m - 1,by simp at hm;omega⟩
   rw[f126.l1,lt_end];rfl
 | cons z zs ih =>
   intro p out m ho hp hm
   obtain ⟨m,rfl⟩:∃ k,m=k+1:=⟨m - 1,by simp at hm;omega⟩
   have hp':p.length<1048576:=by simp at hp;omega
   have w1:IntKind.i64.wrap (at_+(p.length:Int))=at_+(p.length:Int):=by rw[wrap64] <;>omega
   have w' :=wrap_len (z:=z) (p:=p) (show p.length<4611686018427387904 by omega)
   rw[f126.l1,lt_mid,in_mid,toNat_len,okAt_mid,fAt_mid]
   simp only[br_t,gd_t,Bool.and_self,w1,bd_s,w']
   have hq:at_+((p++[z]).length:Int)=at_+(p.length:Int)+1:=by simp;omega
   rw[addClip]
   by_cases hc:at_+(p.length:Int)<(k:Int)
   ·obtain ⟨q,hq2⟩:=Int.eq_ofNat_of_zero_le (show 0≤at_+(p.length:Int) by omega)
    have hqk:q<out.length:=by omega
    have step:=ih (p++[z]) (addAt (at_+(p.length:Int)) z out) m (by rw[addAt_length];exact ho) (by simp at hp ⊢;omega) (by simp at hm;omega)
    rw[hq] at step
    have hadd:addAt (at_+(p.length:Int)) z out=out.set q (fadd .f32 (out.getD q 0) z):=by
     unfold addAt;rw[hq2,if_pos (by omega)];rfl
    rw[hadd] at step ⊢
    rw[decide_eq_true hc]
    rw[hq2] at *
    have g1:decide ((0:Int)≤(q:Int)∧(q:Int)<(k:Int))=true:=decide_eq_true (by omega)
    have g2:okAt [.flt .f32] (fls .f32 out) q=true:=okAt_fls hqk
    have g3:Nat.ble (q+1) (fls .f32 out).length=true:=by rw[fls_length];exact le_ble (by omega)
    simp only[br_t,g1,gd_t,Int.toNat_natCast,g2,g3,fAt_fls,setN_flt]
    simpa using step
   ·have step:=ih (p++[z]) (addAt (at_+(p.length:Int)) z out) m (by rw[addAt_length];exact ho) (by simp at hp ⊢;omega) (by simp at hm;omega)
    have hadd:addAt (at_+(p.length:Int)) z out=out:=by unfold addAt;rw[if_neg (by omega)]
    rw[hadd,hq] at step
    rw[hadd,decide_eq_false hc,br_f]
    simpa using step
theorem s_samples_loop (n:Nat) (track:Int) (M:Nat) (us:List T) (k:Nat) (hk:k≤100000) (cs:List Eff) (hl:cs.length≤100) (hcl:∀ c∈cs,(0≤c.len∧c.len≤256)∧c.nums.length≤256) (hn:300<n):∀ (j i m:Nat) (out:List Nat),i+j=cs.length→out.length=k→j<m →
  f126.l0 n m cs.length (effs cs) M us track (k:Int) k (fls .f32 out) (cs.length:Int) (i:Int)=some (k,fls .f32 (trackGo track 0 (cs.drop i) out)):=by
 intro j
 induction j with
 | zero =>
   intro i m out hi ho hm
   obtain ⟨m,rfl⟩:∃ k,m=k+1:=⟨m - 1,by omega⟩
   rw[f126.l0,nlt_dec (by omega),List.drop_eq_nil_of_le (by omega)];rfl
 | succ j ih =>
   intro i m out hi ho hm
   obtain ⟨m,rfl⟩:∃ k,m=k+1:=⟨m - 1,by omega⟩
   have h:i<cs.length:=by omega
   obtain ⟨c1,c2⟩:=hcl _ (eAt_mem h)
   rw[f126.l0,lt_dec h,in_dec h,Int.toNat_natCast,okE h,eff_drop h,trackGo]
   simp only[br_t,Bool.and_self,gd_t,kE h,gE h,nE h,lE h,bd_s,wrap_succ (show i<9223372036854775807 by omega)]
   by_cases hc:(eAt cs i).kind=track
   ·have e:=s_samples_clip n cs.length (effs cs) M us track k (eAt cs i).kind (eAt cs i).len (cs.length:Int) (i:Int) hk (by omega) (eAt cs i).nums [] out n ho (by simp;omega) (by omega)
    have e:f126.l1 n n cs.length (effs cs) M us track (k:Int) k (fls .f32 out) (eAt cs i).kind (eAt cs i).len (eAt cs i).nums.length (fls .f32 (eAt cs i).nums) (cs.length:Int) (i:Int) ((eAt cs i).nums.length:Int) 0=_:=e
    rw[show ((eAt cs i).kind != track)=false by simp[hc],if_pos hc]
    simp only[br_f,e,bd_s,List.length_nil,Int.natCast_zero,Int.add_zero,Int.sub_zero,wrap_succ (show i<9223372036854775807 by omega)]
    exact ih (i+1) m _ (by omega) (by rw[addClip_length];exact ho) (by omega)
   ·rw[show ((eAt cs i).kind != track)=true by simp[hc],if_neg hc]
    simp only[br_t]
    exact ih (i+1) m out (by omega) ho (by omega)
theorem s_samples (n:Nat) (cs:List Eff) (M:Nat) (us:List T) (track:Int) (k:Nat) (hk:k≤100000) (hl:cs.length≤100) (hcl:∀ c∈cs,(0≤c.len∧c.len≤256)∧c.nums.length≤256) (hn:300<n) :
  f126 (n+1) cs.length (effs cs) M us track (k:Int)=some (k,fls .f32 (trackGo track 0 cs (List.replicate k 0))):=by
 have e:=s_samples_loop n track M us k hk cs hl hcl hn cs.length 0 n (List.replicate k 0) (by omega) (by simp) (by omega)
 have e:f126.l0 n n cs.length (effs cs) M us track (k:Int) k (fls .f32 (List.replicate k 0)) (cs.length:Int) 0=_:=e
 rw[f126,decide_eq_true (show (0:Int)≤(k:Int)∧(k:Int)≤2147483648 by omega),Int.toNat_natCast,reps_fls]
 simp only[gd_t,bd_s,e,List.drop_zero]
structure SOk (cl:List Eff) (ss:List Strp):Prop where
 n:1≤ss.length∧ss.length≤8
 c:cl.length≤12
 s:∀ s∈ss,chainB s.es=true∧(-2000≤s.tn∧s.tn≤2000)∧panB s.pan=true
 k:∀ c∈cl,(0≤c.kind∧c.kind≤(ss.length:Int) - 1)∧(0≤c.len∧c.len≤256)∧c.nums.length≤256
theorem sess_ok {cl:List Eff} {ss:List Strp} (h:sessB cl ss=true):SOk cl ss:=by
 unfold sessB at h
 simp only[Bool.and_eq_true,decide_eq_true_eq,List.all_eq_true] at h
 obtain ⟨h1,h2,h3,h4⟩:=h
 refine ⟨h1,h2,fun s hs => ?_,fun c hc => ?_⟩
 ·have:=h3 s hs
  unfold stB at this
  simp only[Bool.and_eq_true,decide_eq_true_eq] at this
  exact ⟨this.1,this.2.1,this.2.2⟩
 ·have:=h4 c hc
  unfold clB at this
  simp only[Bool.and_eq_true,decide_eq_true_eq] at this
  exact ⟨this.1,this.2.1,this.2.2⟩
structure GoodS (cl:List Eff) (ss:List Strp):Prop where
 c:∀ c∈cl,GoodE c
 s:∀ s∈ss,(∀ e∈s.es,GoodE e)∧GoodI .i64 s.tn∧W32 s.pan
theorem strip_efs {cl:List Eff} {ss:List Strp} (h:SOk cl ss) (hg:GoodS cl ss) {s:Strp} (hs:s∈ss):∃ es:List Ef,effL es=s.es∧(∀ e∈es,e.Ok)∧es.length≤8:=by
 have h1:=(h.s s hs).1
 unfold chainB at h1
 simp only[Bool.and_eq_true,decide_eq_true_eq] at h1
 obtain ⟨es,e1,e2⟩:=efs_of h1.2 (hg.s s hs).1
 exact ⟨es,e1,e2,by rw[← effL_length,e1];exact h1.1⟩
theorem copy_loop (n:Nat) (xs:List Nat) (hx:xs.length≤1048576):∀ (j i m:Nat) (ys:List Nat),ys.length=xs.length→i+j=xs.length→j<m →
  f181.l0 n m xs.length (fls .f32 xs) xs.length (fls .f32 (xs.take i++ys.drop i)) (i:Int)=some (xs.length,fls .f32 xs):=by
 intro j
 induction j with
 | zero =>
   intro i m ys hl hi hm
   obtain ⟨m,rfl⟩:∃ k,m=k+1:=⟨m - 1,by omega⟩
   rw[f181.l0,nlt_dec (by omega)]
   simp only[br]
   rw[List.take_of_length_le (by omega),List.drop_eq_nil_of_le (by omega),List.append_nil]
 | succ j ih =>
   intro i m ys hl hi hm
   obtain ⟨m,rfl⟩:∃ k,m=k+1:=⟨m - 1,by omega⟩
   have hlt:i<xs.length:=by omega
   rw[f181.l0,lt_dec hlt,in_dec hlt,Int.toNat_natCast,okAt_fls hlt,wrap_succ (by omega)]
   have hlen:Nat.ble (i+1) (fls .f32 (xs.take i++ys.drop i)).length=true:=by
    rw[Nat.ble_eq,fls_length];simp;omega
   rw[hlen]
   simp only[br,gd,Bool.and_self]
   rw[setN_one,fAt_fls,set_fls]
   have:xs.getD i 0=xs[i]:=by simp[List.getD,hlt]
   rw[this,take_set_drop hlt hl]
   exact ih (i+1) m ys hl (by omega) (by omega)
theorem copied (n:Nat) (xs:List Nat) (hx:xs.length≤1048576) (hn:xs.length<n):f181 (n+1) xs.length (fls .f32 xs)=some (xs.length,fls .f32 xs):=by
 rw[f181]
 have h:=copy_loop n xs hx xs.length 0 n (List.replicate xs.length 0) (by simp) (by omega) hn
 rw[List.take_zero,List.drop_zero,List.nil_append] at h
 have e:decide ((0:Int)≤((xs.length:Nat):Int)∧((xs.length:Nat):Int)≤(2147483648:Int))=true:=by simp;omega
 rw[reps_fls,e]
 simp only[gd]
 rw[show ((0:Nat):Int)=0 from rfl] at h
 rw[h];rfl
theorem same_self (n y:Nat):f185 (n+1) y y=some true:=by
 unfold f185
 simp only[fne_feq]
 cases h:feq FloatKind.f64 y y
 ·simp[br]
 ·cases h0:feq FloatKind.f64 y 0 <;>simp[br]
theorem eq_loop (n:Nat) (xs:List Nat) (hx:xs.length≤2147483648):∀ (j i m:Nat),i+j=xs.length→j<m →
  f183.l0 (n+1) m xs.length (fls .f32 xs) xs.length (fls .f32 xs) (i:Int)=some (Sum.inr ()):=by
 intro j
 induction j with
 | zero =>
   intro i m hi hm
   obtain ⟨m,rfl⟩:∃ k,m=k+1:=⟨m - 1,by omega⟩
   rw[f183.l0,nlt_dec (by omega)]
   rfl
 | succ j ih =>
   intro i m hi hm
   obtain ⟨m,rfl⟩:∃ k,m=k+1:=⟨m - 1,by omega⟩
   have hlt:i<xs.length:=by omega
   rw[f183.l0,lt_dec hlt,in_dec hlt,Int.toNat_natCast,okAt_fls hlt,wrap_succ (by omega),fltToFlt_wide]
   simp only[br,gd,bd,Bool.and_self,same_self,Bool.not_true]
   exact ih (i+1) m (by omega) (by omega)
theorem eq_self (n:Nat) (xs:List Nat) (hx:xs.length≤2147483648) (hn:xs.length<n+1):f183 (n+2) xs.length (fls .f32 xs) xs.length (fls .f32 xs)=some true:=by
 rw[f183]
 have h:=eq_loop n xs hx xs.length 0 (n+1) (by omega) hn
 rw[show ((0:Nat):Int)=0 from rfl] at h
 rw[h,show (((xs.length:Nat):Int) != ((xs.length:Nat):Int))=false by simp]
 rfl
theorem mark32_loop (n:Nat) (xs:List Nat) (hx:xs.length≤2147483648) (s:Int) (hs:0≤s) (hs':s≤1099511627776):∀ (j i m:Nat),i+j=xs.length→j<m →
  f156.l0 n m xs.length (fls .f32 ((marksF .f32 s xs.length).take i++xs.drop i)) (s+(i:Int)) (i:Int)=some (xs.length,fls .f32 (marksF .f32 s xs.length),s+(xs.length:Int)):=by
 intro j
 induction j with
 | zero =>
   intro i m hi hm
   obtain ⟨m,rfl⟩:∃ k,m=k+1:=⟨m - 1,by omega⟩
   have hi:i=xs.length:=by omega
   subst hi
   rw[f156.l0,nlt_dec (by omega)]
   simp only[br]
   rw[List.take_of_length_le (by rw[marksF_length];omega),List.drop_eq_nil_of_le (by omega),List.append_nil]
 | succ j ih =>
   intro i m hi hm
   obtain ⟨m,rfl⟩:∃ k,m=k+1:=⟨m - 1,by omega⟩
   have hlt:i<xs.length:=by omega
   have hlt':i<(marksF .f32 s xs.length).length:=by rw[marksF_length];exact hlt
   have hlen:Nat.ble (i+1) (fls .f32 ((marksF .f32 s xs.length).take i++xs.drop i)).length=true:=by
    apply le_ble
    rw[fls_length,List.length_append,List.length_take,List.length_drop,marksF_length];omega
   rw[f156.l0,lt_dec hlt,in_dec hlt,Int.toNat_natCast,wrap_succ (by omega),hlen]
   simp only[br,gd]
   rw[setN_one,set_fls,show IntKind.i64.wrap (s+(i:Int)+1)=s+((i+1:Nat):Int) by rw[wrap64] <;>omega,← marksF_at hlt',take_set_drop hlt' (by rw[marksF_length])]
   exact ih (i+1) m (by omega) (by omega)
theorem mark32 (n:Nat) (xs:List Nat) (hx:xs.length≤2147483648) (s:Int) (hs:0≤s) (hs':s≤1099511627776) (hn:xs.length<n) :
  f156 (n+1) xs.length (fls .f32 xs) s=some (s+(xs.length:Int),xs.length,fls .f32 (marksF .f32 s xs.length)):=by
 rw[f156]
 have h:=mark32_loop n xs hx s hs hs' xs.length 0 n (by omega) hn
 rw[List.take_zero,List.drop_zero,List.nil_append,show ((0:Nat):Int)=0 from rfl,Int.add_zero] at h
 rw[h];rfl
theorem held32_loop (n l:Nat) (hx:l≤2147483648) (s:Int) (hs:0≤s) (hs':s≤1099511627776):∀ (j i m:Nat),i+j=l→j<m →
  f158.l0 n m l (fls .f32 (marksF .f32 s l)) (s+(i:Int)) (i:Int)=some (Sum.inr (s+(l:Int))):=by
 intro j
 induction j with
 | zero =>
   intro i m hi hm
   obtain ⟨m,rfl⟩:∃ k,m=k+1:=⟨m - 1,by omega⟩
   have hi:i=l:=by omega
   subst hi
   rw[f158.l0,nlt_dec (by omega)]
   rfl
 | succ j ih =>
   intro i m hi hm
   obtain ⟨m,rfl⟩:∃ k,m=k+1:=⟨m - 1,by omega⟩
   have hlt:i<l:=by omega
   rw[f158.l0,lt_dec hlt,in_dec hlt,Int.toNat_natCast,wrap_succ (by omega),okAt_fls (by rw[marksF_length];exact hlt),fAt_fls,marksF_get hlt,nearest_fne,
    show IntKind.i64.wrap (s+(i:Int)+1)=s+((i+1:Nat):Int) by rw[wrap64] <;>omega]
   simp only[br,gd,Bool.and_self]
   exact ih (i+1) m (by omega) (by omega)
theorem held32 (n l:Nat) (hx:l≤2147483648) (s:Int) (hs:0≤s) (hs':s≤1099511627776) (hn:l<n) :
  f158 (n+1) l (fls .f32 (marksF .f32 s l)) s=some (s+(l:Int)):=by
 rw[f158]
 have h:=held32_loop n l hx s hs hs' l 0 n (by omega) hn
 rw[show ((0:Nat):Int)=0 from rfl,Int.add_zero] at h
 rw[h];rfl
theorem rows_set {α:Type} {f:α→List T} {w:Nat} (hf:∀ x,(f x).length=w) (d:α):∀ (ts:List α) (i c:Nat) (v:T) (y:α),i<ts.length→c<w→f y=(f (ts.getD i d)).set c v→(ts.flatMap f).set (i * w+c) v=(ts.set i y).flatMap f
 | [],i,c,v,y,h,_,_=>by simp at h
 | t::ts,0,c,v,y,_,hc,hy=>by
   simp only[List.flatMap_cons,List.set_cons_zero,Nat.zero_mul,Nat.zero_add]
   rw[List.set_append_left _ _ (by rw[hf];exact hc),hy];rfl
 | t::ts,i+1,c,v,y,h,hc,hy=>by
   simp only[List.flatMap_cons,List.set_cons_succ]
   have e:(i+1) * w+c=w+(i * w+c):=by rw[Nat.add_mul];omega
   rw[List.set_append_right _ _ (by rw[hf,e];omega),hf,show (i+1) * w+c - w=i * w+c by omega,rows_set hf d ts i c v y (by simpa using h) hc (by simpa using hy)]
theorem effC_length (e:Eff):(effC e).length=3:=rfl
theorem stC_length (s:Strp):(stC s).length=5:=rfl
theorem effs_length (ts:List Eff):(effs ts).length=3 * ts.length:=by
 unfold effs
 induction ts with
 | nil=>rfl
 | cons t ts ih=>rw[List.flatMap_cons,List.length_append,ih,effC_length,List.length_cons];omega
theorem strps_length (ts:List Strp):(strps ts).length=5 * ts.length:=by
 unfold strps
 induction ts with
 | nil=>rfl
 | cons t ts ih=>rw[List.flatMap_cons,List.length_append,ih,stC_length,List.length_cons];omega
theorem eff_row {ts:List Eff} {i:Nat} (h:i<ts.length) (e:Eff):setN (effs ts) (i * 3+0) [.int .i64 e.kind,.int .i64 e.len,.lst e.nums.length (fls .f32 e.nums)]=effs (ts.set i e):=by
 show (((effs ts).set (i * 3+0) _).set (i * 3+0+1) _).set (i * 3+0+1+1) _=_
 unfold effs
 rw[rows_set effC_length ⟨5,0,[]⟩ ts i 0 (.int .i64 e.kind) ⟨e.kind,(eAt ts i).len,(eAt ts i).nums⟩ h (by decide) rfl,
  show i * 3+0+1=i * 3+1 from rfl,rows_set effC_length ⟨5,0,[]⟩ _ i 1 (.int .i64 e.len) ⟨e.kind,e.len,(eAt ts i).nums⟩ (by simpa using h) (by decide) (by simp[List.getD,h];rfl),
  show i * 3+1+1=i * 3+2 from rfl,rows_set effC_length ⟨5,0,[]⟩ _ i 2 (.lst e.nums.length (fls .f32 e.nums)) e (by simpa using h) (by decide) (by simp[List.getD,h];rfl)]
 simp
theorem st_row {ts:List Strp} {i:Nat} (h:i<ts.length) (s:Strp):setN (strps ts) (i * 5+0) [.lst s.es.length (effs s.es),.int .i64 s.tn,.flt .f32 s.pan,.bool s.mute,.bool s.solo]=strps (ts.set i s):=by
 show (((((strps ts).set (i * 5+0) _).set (i * 5+0+1) _).set (i * 5+0+1+1) _).set (i * 5+0+1+1+1) _).set (i * 5+0+1+1+1+1) _=_
 unfold strps
 rw[rows_set stC_length ⟨[],0,0,false,false⟩ ts i 0 (.lst s.es.length (effs s.es)) ⟨s.es,(sAt5 ts i).tn,(sAt5 ts i).pan,(sAt5 ts i).mute,(sAt5 ts i).solo⟩ h (by decide) rfl,
  show i * 5+0+1=i * 5+1 from rfl,rows_set stC_length ⟨[],0,0,false,false⟩ _ i 1 (.int .i64 s.tn) ⟨s.es,s.tn,(sAt5 ts i).pan,(sAt5 ts i).mute,(sAt5 ts i).solo⟩ (by simpa using h) (by decide) (by simp[List.getD,h];rfl),
  show i * 5+1+1=i * 5+2 from rfl,rows_set stC_length ⟨[],0,0,false,false⟩ _ i 2 (.flt .f32 s.pan) ⟨s.es,s.tn,s.pan,(sAt5 ts i).mute,(sAt5 ts i).solo⟩ (by simpa using h) (by decide) (by simp[List.getD,h];rfl),
  show i * 5+2+1=i * 5+3 from rfl,rows_set stC_length ⟨[],0,0,false,false⟩ _ i 3 (.bool s.mute) ⟨s.es,s.tn,s.pan,s.mute,(sAt5 ts i).solo⟩ (by simpa using h) (by decide) (by simp[List.getD,h];rfl),
  show i * 5+3+1=i * 5+4 from rfl,rows_set stC_length ⟨[],0,0,false,false⟩ _ i 4 (.bool s.solo) s (by simpa using h) (by decide) (by simp[List.getD,h];rfl)]
 simp
theorem reps_effs (n:Nat):reps n [(T.int .i64 (0:Int)),(T.int .i64 (0:Int)),(T.lst 0 [])]=effs (List.replicate n ⟨0,0,[]⟩):=by
 induction n with
 | zero=>rfl
 | succ n ih=>rw[List.replicate_succ,show effs (⟨0,0,[]⟩::List.replicate n ⟨0,0,[]⟩)=effC ⟨0,0,[]⟩++effs (List.replicate n ⟨0,0,[]⟩) from rfl,← ih];rfl
theorem reps_strps (n:Nat):reps n [(T.lst 0 []),(T.int .i64 (0:Int)),(T.flt .f32 0),(T.bool false),(T.bool false)]=strps (List.replicate n ⟨[],0,0,false,false⟩):=by
 induction n with
 | zero=>rfl
 | succ n ih=>rw[List.replicate_succ,show strps (⟨[],0,0,false,false⟩::List.replicate n ⟨[],0,0,false,false⟩)=stC ⟨[],0,0,false,false⟩++strps (List.replicate n ⟨[],0,0,false,false⟩) from rfl,← ih];rfl
def szE:List Eff→Nat
 | []=>0
 | e::es=>1+e.nums.length+szE es
def szSt:List Strp→Nat
 | []=>0
 | s::ss=>1+szE s.es+szSt ss
theorem szE_len:∀ (es:List Eff),es.length≤szE es
 | []=>Nat.le_refl _
 | e::es=>by have:=szE_len es;simp only[List.length_cons,szE];omega
theorem szE_num:∀ (es:List Eff) (e:Eff),e∈es→e.nums.length≤szE es
 | e::es,f,h=>by
   rcases List.mem_cons.1 h with rfl | h
   ·simp only[szE];omega
   ·have:=szE_num es f h;simp only[szE];omega
theorem szSt_len:∀ (es:List Strp),es.length≤szSt es
 | []=>Nat.le_refl _
 | e::es=>by have:=szSt_len es;simp only[List.length_cons,szSt];omega
theorem szSt_es:∀ (es:List Strp) (s:Strp),s∈es→szE s.es≤szSt es
 | e::es,f,h=>by
   rcases List.mem_cons.1 h with rfl | h
   ·simp only[szSt];omega
   ·have:=szSt_es es f h;simp only[szSt];omega
def nmE:List Eff→Nat
 | []=>0
 | e::es=>e.nums.length+nmE es
theorem szE_nm:∀ (es:List Eff),szE es=es.length+nmE es
 | []=>rfl
 | e::es=>by rw[szE,szE_nm es,nmE,List.length_cons];omega
def nmSt:List Strp→Nat
 | []=>0
 | s::ss=>szE s.es+nmSt ss
theorem szSt_nm:∀ (es:List Strp),szSt es=es.length+nmSt es
 | []=>rfl
 | e::es=>by rw[szSt,szSt_nm es,nmSt,List.length_cons];omega
def leftM (left:Int) (k:Nat):Int:=if (k:Int)≤left then left - k else -1
theorem sz32 (n:Nat) (xs:List Nat) (hx:xs.length≤9223372036854775807) (left:Int) (h0:0≤left) (h1:left≤1048576):f179 (n+1) xs.length (fls .f32 xs) left=some (leftM left xs.length):=by
 rw[f179,show IntKind.i64.wrap (left - (xs.length:Int))=left - (xs.length:Int) by rw[wrap64] <;>omega]
 unfold leftM
 by_cases h:(xs.length:Int)≤left
 ·rw[decide_eq_false (by omega),if_pos h];rfl
 ·rw[decide_eq_true (by omega),if_neg h];rfl
theorem leftM_neg {left:Int} {k:Nat} (h0:0≤left):decide (leftM left k<0) = !decide ((k:Int)≤left):=by
 unfold leftM
 split
 ·rename_i h;rw[decide_eq_true h];exact decide_eq_false (by omega)
 ·rename_i h;rw[decide_eq_false h];rfl
def marksE:Int→List Eff→List Eff
 | _,[]=>[]
 | s,e::es=>⟨s,s+1,marksF .f32 (s+2) e.nums.length⟩::marksE (s+2+(e.nums.length:Int)) es
theorem marksE_length:∀ (es:List Eff) (s:Int),(marksE s es).length=es.length
 | [],_=>rfl
 | e::es,s=>by simp[marksE,marksE_length es]
theorem sz1_e (n:Nat) (e:Eff) (hx:e.nums.length≤9223372036854775807) (left:Int) (h0:0≤left) (h1:left≤1048576):f195 (n+2) e.kind e.len e.nums.length (fls .f32 e.nums) left=some (leftM left e.nums.length):=by
 rw[f195,sz32 n e.nums hx left h0 h1]
 simp only[bd_s,leftM_neg h0]
 by_cases h:(e.nums.length:Int)≤left
 ·rw[decide_eq_true h];rfl
 ·rw[decide_eq_false h];unfold leftM;rw[if_neg h];rfl
theorem szl_e (n:Nat) (es:List Eff) (hx:∀ e∈es,e.nums.length≤9223372036854775807) (hl:es.length≤1048576):∀ (j i m:Nat) (left:Int),0≤left→left≤1048576→i+j=es.length→j<m →
  f180.l0 (n+2) m es.length (effs es) left (i:Int)=some (if (nmE (es.drop i):Int)≤left then Sum.inr (left - (nmE (es.drop i):Int)) else Sum.inl (-1)):=by
 intro j
 induction j with
 | zero =>
   intro i m left h0 h1 hi hm
   obtain ⟨m,rfl⟩:∃ k,m=k+1:=⟨m - 1,by omega⟩
   rw[f180.l0,nlt_dec (by omega),List.drop_eq_nil_of_le (by omega)]
   simp[br,nmE,h0]
 | succ j ih =>
   intro i m left h0 h1 hi hm
   obtain ⟨m,rfl⟩:∃ k,m=k+1:=⟨m - 1,by omega⟩
   have h:i<es.length:=by omega
   have e1:=sz1_e n (eAt es i) (hx _ (eAt_mem h)) left h0 h1
   rw[f180.l0,lt_dec h,in_dec h,Int.toNat_natCast,okE h,eff_drop h,nmE]
   simp only[br_t,Bool.and_self,gd_t,kE h,gE h,nE h,lE h,e1,bd_s,leftM_neg h0,wrap_succ (show i<9223372036854775807 by omega)]
   by_cases hc:((eAt es i).nums.length:Int)≤left
   ·rw[decide_eq_true hc]
    simp only[Bool.not_true,br_f]
    have hL:leftM left (eAt es i).nums.length=left - ((eAt es i).nums.length:Int):=by unfold leftM;rw[if_pos hc]
    rw[hL,ih (i+1) m _ (by omega) (by omega) (by omega) (by omega)]
    congr 1
    by_cases h2:(nmE (es.drop (i+1)):Int)≤left - ((eAt es i).nums.length:Int)
    ·rw[if_pos h2,if_pos (by omega)];congr 1;omega
    ·rw[if_neg h2,if_neg (by omega)]
   ·rw[decide_eq_false hc,if_neg (by omega)];rfl
theorem szs_e (n:Nat) (es:List Eff) (hx:∀ e∈es,e.nums.length≤9223372036854775807) (hx2:es.length≤9223372036854775807) (left:Int) (h0:0≤left) (h1:left≤1048576) (hn:1048577<n) :
  f180 (n+3) es.length (effs es) left=some (leftM left (szE es)):=by
 rw[f180,show IntKind.i64.wrap (left - (es.length:Int))=left - (es.length:Int) by rw[wrap64] <;>omega,szE_nm]
 unfold leftM
 by_cases h:(es.length:Int)≤left
 ·have e:=szl_e n es hx (by omega) es.length 0 (n+2) (left - (es.length:Int)) (by omega) (by omega) (by omega) (by omega)
  have e:f180.l0 (n+2) (n+2) es.length (effs es) (left - (es.length:Int)) 0=_:=e
  rw[decide_eq_false (by omega),e,List.drop_zero]
  by_cases h2:(nmE es:Int)≤left - (es.length:Int)
  ·rw[if_pos h2,if_pos (by omega)]
   simp only[br_f,bd_s,sm_r]
   congr 1;omega
  ·rw[if_neg h2,if_neg (by omega)];rfl
 ·rw[decide_eq_true (by omega),if_neg (by omega)];rfl
theorem to1_e (n:Nat) (e:Eff) (hx:e.nums.length≤1048576) (hn:1048576<n):f196 (n+2) e.kind e.len e.nums.length (fls .f32 e.nums)=some (e.kind,e.len,e.nums.length,fls .f32 e.nums):=by
 rw[f196,copied n e.nums hx (by omega)];rfl
theorem tol_e (n:Nat) (es:List Eff) (hx:∀ e∈es,e.nums.length≤1048576) (hl:es.length≤1048576) (hn:1048576<n):∀ (j i m:Nat) (ys:List Eff),ys.length=es.length→i+j=es.length→j<m →
  f182.l0 (n+2) m es.length (effs es) es.length (effs (es.take i++ys.drop i)) (i:Int)=some (es.length,effs es):=by
 intro j
 induction j with
 | zero =>
   intro i m ys hy hi hm
   obtain ⟨m,rfl⟩:∃ k,m=k+1:=⟨m - 1,by omega⟩
   rw[f182.l0,nlt_dec (by omega),List.take_of_length_le (by omega),List.drop_eq_nil_of_le (by omega),List.append_nil];rfl
 | succ j ih =>
   intro i m ys hy hi hm
   obtain ⟨m,rfl⟩:∃ k,m=k+1:=⟨m - 1,by omega⟩
   have h:i<es.length:=by omega
   have hlen:(es.take i++ys.drop i).length=es.length:=by rw[List.length_append,List.length_take,List.length_drop];omega
   have h':i<(es.take i++ys.drop i).length:=by omega
   have hb:Nat.ble (i * 3+0+3) (effs (es.take i++ys.drop i)).length=true:=by rw[effs_length,hlen];exact le_ble (by omega)
   have hset:(es.take i++ys.drop i).set i (eAt es i)=es.take (i+1)++ys.drop (i+1):=by
    have:eAt es i=es[i]:=by simp[eAt,List.getD,h]
    rw[this];exact take_set_drop h hy
   rw[f182.l0,lt_dec h,in_dec h,Int.toNat_natCast,okE h]
   simp only[br_t,Bool.and_self,gd_t,kE h,gE h,nE h,lE h,to1_e n (eAt es i) (hx _ (eAt_mem h)) hn,bd_s,hb,eff_row h' (eAt es i),hset,wrap_succ (show i<9223372036854775807 by omega)]
   exact ih (i+1) m ys hy (by omega) (by omega)
theorem tos_e (n:Nat) (es:List Eff) (hx:∀ e∈es,e.nums.length≤1048576) (hl:es.length≤1048576) (hn:1048576<n):f182 (n+3) es.length (effs es)=some (es.length,effs es):=by
 have e:=tol_e n es hx hl hn es.length 0 (n+2) (List.replicate es.length ⟨0,0,[]⟩) (by simp) (by omega) (by omega)
 rw[List.take_zero,List.drop_zero,List.nil_append] at e
 have e:f182.l0 (n+2) (n+2) es.length (effs es) es.length (effs (List.replicate es.length ⟨0,0,[]⟩)) 0=_:=e
 rw[f182,decide_eq_true (show (0:Int)≤(es.length:Int)∧(es.length:Int)≤2147483648 by omega),reps_effs]
 simp only[gd_t,e,bd_s]
theorem eq1_e (n:Nat) (e:Eff) (hx:e.nums.length≤1048576) (hn:1048576<n):f197 (n+3) e.kind e.len e.nums.length (fls .f32 e.nums) e.kind e.len e.nums.length (fls .f32 e.nums)=some true:=by
 rw[f197,eq_self n e.nums (by omega) (by omega)]
 simp only[bne_self_eq_false,br_f,bd_s,Bool.not_true]
theorem eql_e (n:Nat) (es:List Eff) (hx:∀ e∈es,e.nums.length≤1048576) (hl:es.length≤1048576) (hn:1048576<n):∀ (j i m:Nat),i+j=es.length→j<m →
  f184.l0 (n+3) m es.length (effs es) es.length (effs es) (i:Int)=some (Sum.inr ()):=by
 intro j
 induction j with
 | zero =>
   intro i m hi hm
   obtain ⟨m,rfl⟩:∃ k,m=k+1:=⟨m - 1,by omega⟩
   rw[f184.l0,nlt_dec (by omega)];rfl
 | succ j ih =>
   intro i m hi hm
   obtain ⟨m,rfl⟩:∃ k,m=k+1:=⟨m - 1,by omega⟩
   have h:i<es.length:=by omega
   rw[f184.l0,lt_dec h,in_dec h,Int.toNat_natCast,okE h]
   simp only[br_t,Bool.and_self,gd_t,kE h,gE h,nE h,lE h,eq1_e n (eAt es i) (hx _ (eAt_mem h)) hn,bd_s,Bool.not_true,br_f,wrap_succ (show i<9223372036854775807 by omega)]
   exact ih (i+1) m (by omega) (by omega)
theorem eqs_e (n:Nat) (es:List Eff) (hx:∀ e∈es,e.nums.length≤1048576) (hl:es.length≤1048576) (hn:1048576<n):f184 (n+4) es.length (effs es) es.length (effs es)=some true:=by
 have e:=eql_e n es hx hl hn es.length 0 (n+3) (by omega) (by omega)
 have e:f184.l0 (n+3) (n+3) es.length (effs es) es.length (effs es) 0=_:=e
 rw[f184]
 simp only[bne_self_eq_false,br_f,e,bd_s,sm_r]
theorem mkl_e (n:Nat) (hn:1048576<n):∀ (zs p:List Eff) (s:Int) (m:Nat),(∀ e∈zs,e.nums.length≤1048576)→0≤s→s+2 * (zs.length:Int)+(nmE zs:Int)≤1099511627776→p.length+zs.length≤1048576→zs.length<m →
  f157.l0 (n+1) m (p++zs).length (effs (p++zs)) s (p.length:Int)=some ((p++zs).length,effs (p++marksE s zs),s+2 * (zs.length:Int)+(nmE zs:Int)):=by
 intro zs
 induction zs with
 | nil =>
   intro p s m _ _ _ _ hm
   obtain ⟨m,rfl⟩:∃ k,m=k+1:=⟨m - 1,by simp at hm;omega⟩
   rw[f157.l0,lt_end]
   simp[br,marksE,nmE]
 | cons z zs ih =>
   intro p s m hx h0 h1 hp hm
   obtain ⟨m,rfl⟩:∃ k,m=k+1:=⟨m - 1,by simp at hm;omega⟩
   simp only[nmE,List.length_cons] at h1
   have hz:=hx z (by simp)
   have h:p.length<(p++z::zs).length:=by simp
   have hat:eAt (p++z::zs) p.length=z:=by simp[eAt,List.getD]
   have hlen:∀ y,(p++y::zs).length=(p++z::zs).length:=fun y=>by simp
   have hb:∀ (y:Eff) (c:Nat),c<3→Nat.ble (p.length * 3+c+1) (effs (p++y::zs)).length=true:=fun y c hc=>by
    rw[effs_length];apply le_ble;simp;omega
   have st:∀ (y z':Eff) (c:Nat) (v:T),c<3→effC z'=(effC y).set c v→setN (effs (p++y::zs)) (p.length * 3+c) [v]=effs (p++z'::zs):=fun y z' c v hc hy=>by
    rw[setN_one]
    have:=rows_set effC_length ⟨5,0,[]⟩ (p++y::zs) p.length c v z' (by simp) hc (by simpa [List.getD] using hy)
    unfold effs
    rw[this];simp
   have w1:IntKind.i64.wrap (s+1)=s+1:=by rw[wrap64] <;>omega
   have w2:IntKind.i64.wrap (s+1+1)=s+2:=by rw[wrap64] <;>omega
   have e0:=st z ⟨s,z.len,z.nums⟩ 0 (.int .i64 s) (by decide) rfl
   have e1:=st ⟨s,z.len,z.nums⟩ ⟨s,s+1,z.nums⟩ 1 (.int .i64 (s+1)) (by decide) rfl
   have e2:=st ⟨s,s+1,z.nums⟩ ⟨s,s+1,marksF .f32 (s+2) z.nums.length⟩ 2 (.lst z.nums.length (fls .f32 (marksF .f32 (s+2) z.nums.length))) (by decide) (by simp[effC,marksF_length])
   have h2:p.length<(p++(⟨s,s+1,z.nums⟩:Eff)::zs).length:=by simp
   have hat2:eAt (p++(⟨s,s+1,z.nums⟩:Eff)::zs) p.length=⟨s,s+1,z.nums⟩:=by simp[eAt,List.getD]
   have g3:(effs (p++(⟨s,s+1,z.nums⟩:Eff)::zs))[p.length * 3+2]?=some (.lst z.nums.length (fls .f32 z.nums)):=by
    rw[eff_get (c:=2) (by decide) _ _ h2,hat2];rfl
   have g4:okAt [.lst] (effs (p++(⟨s,s+1,z.nums⟩:Eff)::zs)) (p.length * 3+2)=true:=by simp[okAt,g3,isCK]
   have g5:nAt (effs (p++(⟨s,s+1,z.nums⟩:Eff)::zs)) (p.length * 3+2)=z.nums.length:=by unfold nAt;rw[g3]
   have g6:lAt (effs (p++(⟨s,s+1,z.nums⟩:Eff)::zs)) (p.length * 3+2)=fls .f32 z.nums:=by unfold lAt;rw[g3]
   have e3:=mark32 n z.nums (by omega) (s+2) (by omega) (by omega) (by omega)
   have step:=ih (p++[⟨s,s+1,marksF .f32 (s+2) z.nums.length⟩]) (s+2+(z.nums.length:Int)) m (fun e he=>hx e (by simp[he])) (by omega) (by omega) (by simp at hp ⊢;omega) (by simp at hm;omega)
   rw[f157.l0,lt_mid,in_mid,toNat_len,wrap_len (z:=z) (show p.length<4611686018427387904 by simp at hp;omega)]
   simp only[br_t,gd_t,hb z 0 (by decide),e0,w1,hb _ 1 (by decide),e1,w2,g4,Bool.and_self,g5,g6,e3,bd_s,e2]
   have q1:(p++[(⟨s,s+1,marksF .f32 (s+2) z.nums.length⟩:Eff)])++zs=p++⟨s,s+1,marksF .f32 (s+2) z.nums.length⟩::zs:=by simp
   have q2:(p++[(⟨s,s+1,marksF .f32 (s+2) z.nums.length⟩:Eff)])++marksE (s+2+(z.nums.length:Int)) zs=p++marksE s (z::zs):=by simp[marksE]
   rw[q1,q2,hlen] at step
   have q3:(p++[(⟨s,s+1,marksF .f32 (s+2) z.nums.length⟩:Eff)]).length=(p++[z]).length:=by simp
   rw[q3] at step
   rw[step]
   congr 3
   simp only[nmE,List.length_cons];omega
theorem mks_e (n:Nat) (es:List Eff) (hx:∀ e∈es,e.nums.length≤1048576) (hl:es.length≤1048576) (s:Int) (h0:0≤s) (h1:s+2 * (es.length:Int)+(nmE es:Int)≤1099511627776) (hn:1048576<n) :
  f157 (n+2) es.length (effs es) s=some (s+2 * (es.length:Int)+(nmE es:Int),es.length,effs (marksE s es)):=by
 have e:=mkl_e n hn es [] s (n+1) hx h0 h1 (by simpa using hl) (by omega)
 have e:f157.l0 (n+1) (n+1) es.length (effs es) s 0=some (es.length,effs (marksE s es),s+2 * (es.length:Int)+(nmE es:Int)):=e
 rw[f157,e];rfl
theorem sz1_c (n:Nat) (e:Eff) (hx:e.nums.length≤9223372036854775807) (left:Int) (h0:0≤left) (h1:left≤1048576):f150 (n+2) e.kind e.len e.nums.length (fls .f32 e.nums) left=some (leftM left e.nums.length):=by
 rw[f150,sz32 n e.nums hx left h0 h1]
 simp only[bd_s,leftM_neg h0]
 by_cases h:(e.nums.length:Int)≤left
 ·rw[decide_eq_true h];rfl
 ·rw[decide_eq_false h];unfold leftM;rw[if_neg h];rfl
theorem szl_c (n:Nat) (es:List Eff) (hx:∀ e∈es,e.nums.length≤9223372036854775807) (hl:es.length≤1048576):∀ (j i m:Nat) (left:Int),0≤left→left≤1048576→i+j=es.length→j<m →
  f109.l0 (n+2) m es.length (effs es) left (i:Int)=some (if (nmE (es.drop i):Int)≤left then Sum.inr (left - (nmE (es.drop i):Int)) else Sum.inl (-1)):=by
 intro j
 induction j with
 | zero =>
   intro i m left h0 h1 hi hm
   obtain ⟨m,rfl⟩:∃ k,m=k+1:=⟨m - 1,by omega⟩
   rw[f109.l0,nlt_dec (by omega),List.drop_eq_nil_of_le (by omega)]
   simp[br,nmE,h0]
 | succ j ih =>
   intro i m left h0 h1 hi hm
   obtain ⟨m,rfl⟩:∃ k,m=k+1:=⟨m - 1,by omega⟩
   have h:i<es.length:=by omega
   have e1:=sz1_c n (eAt es i) (hx _ (eAt_mem h)) left h0 h1
   rw[f109.l0,lt_dec h,in_dec h,Int.toNat_natCast,okE h,eff_drop h,nmE]
   simp only[br_t,Bool.and_self,gd_t,kE h,gE h,nE h,lE h,e1,bd_s,leftM_neg h0,wrap_succ (show i<9223372036854775807 by omega)]
   by_cases hc:((eAt es i).nums.length:Int)≤left
   ·rw[decide_eq_true hc]
    simp only[Bool.not_true,br_f]
    have hL:leftM left (eAt es i).nums.length=left - ((eAt es i).nums.length:Int):=by unfold leftM;rw[if_pos hc]
    rw[hL,ih (i+1) m _ (by omega) (by omega) (by omega) (by omega)]
    congr 1
    by_cases h2:(nmE (es.drop (i+1)):Int)≤left - ((eAt es i).nums.length:Int)
    ·rw[if_pos h2,if_pos (by omega)];congr 1;omega
    ·rw[if_neg h2,if_neg (by omega)]
   ·rw[decide_eq_false hc,if_neg (by omega)];rfl
theorem szs_c (n:Nat) (es:List Eff) (hx:∀ e∈es,e.nums.length≤9223372036854775807) (hx2:es.length≤9223372036854775807) (left:Int) (h0:0≤left) (h1:left≤1048576) (hn:1048577<n) :
  f109 (n+3) es.length (effs es) left=some (leftM left (szE es)):=by
 rw[f109,show IntKind.i64.wrap (left - (es.length:Int))=left - (es.length:Int) by rw[wrap64] <;>omega,szE_nm]
 unfold leftM
 by_cases h:(es.length:Int)≤left
 ·have e:=szl_c n es hx (by omega) es.length 0 (n+2) (left - (es.length:Int)) (by omega) (by omega) (by omega) (by omega)
  have e:f109.l0 (n+2) (n+2) es.length (effs es) (left - (es.length:Int)) 0=_:=e
  rw[decide_eq_false (by omega),e,List.drop_zero]
  by_cases h2:(nmE es:Int)≤left - (es.length:Int)
  ·rw[if_pos h2,if_pos (by omega)]
   simp only[br_f,bd_s,sm_r]
   congr 1;omega
  ·rw[if_neg h2,if_neg (by omega)];rfl
 ·rw[decide_eq_true (by omega),if_neg (by omega)];rfl
theorem to1_c (n:Nat) (e:Eff) (hx:e.nums.length≤1048576) (hn:1048576<n):f152 (n+2) e.kind e.len e.nums.length (fls .f32 e.nums)=some (e.kind,e.len,e.nums.length,fls .f32 e.nums):=by
 rw[f152,copied n e.nums hx (by omega)];rfl
theorem tol_c (n:Nat) (es:List Eff) (hx:∀ e∈es,e.nums.length≤1048576) (hl:es.length≤1048576) (hn:1048576<n):∀ (j i m:Nat) (ys:List Eff),ys.length=es.length→i+j=es.length→j<m →
  f111.l0 (n+2) m es.length (effs es) es.length (effs (es.take i++ys.drop i)) (i:Int)=some (es.length,effs es):=by
 intro j
 induction j with
 | zero =>
   intro i m ys hy hi hm
   obtain ⟨m,rfl⟩:∃ k,m=k+1:=⟨m - 1,by omega⟩
   rw[f111.l0,nlt_dec (by omega),List.take_of_length_le (by omega),List.drop_eq_nil_of_le (by omega),List.append_nil];rfl
 | succ j ih =>
   intro i m ys hy hi hm
   obtain ⟨m,rfl⟩:∃ k,m=k+1:=⟨m - 1,by omega⟩
   have h:i<es.length:=by omega
   have hlen:(es.take i++ys.drop i).length=es.length:=by rw[List.length_append,List.length_take,List.length_drop];omega
   have h':i<(es.take i++ys.drop i).length:=by omega
   have hb:Nat.ble (i * 3+0+3) (effs (es.take i++ys.drop i)).length=true:=by rw[effs_length,hlen];exact le_ble (by omega)
   have hset:(es.take i++ys.drop i).set i (eAt es i)=es.take (i+1)++ys.drop (i+1):=by
    have:eAt es i=es[i]:=by simp[eAt,List.getD,h]
    rw[this];exact take_set_drop h hy
   rw[f111.l0,lt_dec h,in_dec h,Int.toNat_natCast,okE h]
   simp only[br_t,Bool.and_self,gd_t,kE h,gE h,nE h,lE h,to1_c n (eAt es i) (hx _ (eAt_mem h)) hn,bd_s,hb,eff_row h' (eAt es i),hset,wrap_succ (show i<9223372036854775807 by omega)]
   exact ih (i+1) m ys hy (by omega) (by omega)
theorem tos_c (n:Nat) (es:List Eff) (hx:∀ e∈es,e.nums.length≤1048576) (hl:es.length≤1048576) (hn:1048576<n):f111 (n+3) es.length (effs es)=some (es.length,effs es):=by
 have e:=tol_c n es hx hl hn es.length 0 (n+2) (List.replicate es.length ⟨0,0,[]⟩) (by simp) (by omega) (by omega)
 rw[List.take_zero,List.drop_zero,List.nil_append] at e
 have e:f111.l0 (n+2) (n+2) es.length (effs es) es.length (effs (List.replicate es.length ⟨0,0,[]⟩)) 0=_:=e
 rw[f111,decide_eq_true (show (0:Int)≤(es.length:Int)∧(es.length:Int)≤2147483648 by omega),reps_effs]
 simp only[gd_t,e,bd_s]
theorem eq1_c (n:Nat) (e:Eff) (hx:e.nums.length≤1048576) (hn:1048576<n):f154 (n+3) e.kind e.len e.nums.length (fls .f32 e.nums) e.kind e.len e.nums.length (fls .f32 e.nums)=some true:=by
 rw[f154,eq_self n e.nums (by omega) (by omega)]
 simp only[bne_self_eq_false,br_f,bd_s,Bool.not_true]
theorem eql_c (n:Nat) (es:List Eff) (hx:∀ e∈es,e.nums.length≤1048576) (hl:es.length≤1048576) (hn:1048576<n):∀ (j i m:Nat),i+j=es.length→j<m →
  f113.l0 (n+3) m es.length (effs es) es.length (effs es) (i:Int)=some (Sum.inr ()):=by
 intro j
 induction j with
 | zero =>
   intro i m hi hm
   obtain ⟨m,rfl⟩:∃ k,m=k+1:=⟨m - 1,by omega⟩
   rw[f113.l0,nlt_dec (by omega)];rfl
 | succ j ih =>
   intro i m hi hm
   obtain ⟨m,rfl⟩:∃ k,m=k+1:=⟨m - 1,by omega⟩
   have h:i<es.length:=by omega
   rw[f113.l0,lt_dec h,in_dec h,Int.toNat_natCast,okE h]
   simp only[br_t,Bool.and_self,gd_t,kE h,gE h,nE h,lE h,eq1_c n (eAt es i) (hx _ (eAt_mem h)) hn,bd_s,Bool.not_true,br_f,wrap_succ (show i<9223372036854775807 by omega)]
   exact ih (i+1) m (by omega) (by omega)
theorem eqs_c (n:Nat) (es:List Eff) (hx:∀ e∈es,e.nums.length≤1048576) (hl:es.length≤1048576) (hn:1048576<n):f113 (n+4) es.length (effs es) es.length (effs es)=some true:=by
 have e:=eql_c n es hx hl hn es.length 0 (n+3) (by omega) (by omega)
 have e:f113.l0 (n+3) (n+3) es.length (effs es) es.length (effs es) 0=_:=e
 rw[f113]
 simp only[bne_self_eq_false,br_f,e,bd_s,sm_r]
theorem mkl_c (n:Nat) (hn:1048576<n):∀ (zs p:List Eff) (s:Int) (m:Nat),(∀ e∈zs,e.nums.length≤1048576)→0≤s→s+2 * (zs.length:Int)+(nmE zs:Int)≤1099511627776→p.length+zs.length≤1048576→zs.length<m →
  f115.l0 (n+1) m (p++zs).length (effs (p++zs)) s (p.length:Int)=some ((p++zs).length,effs (p++marksE s zs),s+2 * (zs.length:Int)+(nmE zs:Int)):=by
 intro zs
 induction zs with
 | nil =>
   intro p s m _ _ _ _ hm
   obtain ⟨m,rfl⟩:∃ k,m=k+1:=⟨m - 1,by simp at hm;omega⟩
   rw[f115.l0,lt_end]
   simp[br,marksE,nmE]
 | cons z zs ih =>
   intro p s m hx h0 h1 hp hm
   obtain ⟨m,rfl⟩:∃ k,m=k+1:=⟨m - 1,by simp at hm;omega⟩
   simp only[nmE,List.length_cons] at h1
   have hz:=hx z (by simp)
   have h:p.length<(p++z::zs).length:=by simp
   have hat:eAt (p++z::zs) p.length=z:=by simp[eAt,List.getD]
   have hlen:∀ y,(p++y::zs).length=(p++z::zs).length:=fun y=>by simp
   have hb:∀ (y:Eff) (c:Nat),c<3→Nat.ble (p.length * 3+c+1) (effs (p++y::zs)).length=true:=fun y c hc=>by
    rw[effs_length];apply le_ble;simp;omega
   have st:∀ (y z':Eff) (c:Nat) (v:T),c<3→effC z'=(effC y).set c v→setN (effs (p++y::zs)) (p.length * 3+c) [v]=effs (p++z'::zs):=fun y z' c v hc hy=>by
    rw[setN_one]
    have:=rows_set effC_length ⟨5,0,[]⟩ (p++y::zs) p.length c v z' (by simp) hc (by simpa [List.getD] using hy)
    unfold effs
    rw[this];simp
   have w1:IntKind.i64.wrap (s+1)=s+1:=by rw[wrap64] <;>omega
   have w2:IntKind.i64.wrap (s+1+1)=s+2:=by rw[wrap64] <;>omega
   have e0:=st z ⟨s,z.len,z.nums⟩ 0 (.int .i64 s) (by decide) rfl
   have e1:=st ⟨s,z.len,z.nums⟩ ⟨s,s+1,z.nums⟩ 1 (.int .i64 (s+1)) (by decide) rfl
   have e2:=st ⟨s,s+1,z.nums⟩ ⟨s,s+1,marksF .f32 (s+2) z.nums.length⟩ 2 (.lst z.nums.length (fls .f32 (marksF .f32 (s+2) z.nums.length))) (by decide) (by simp[effC,marksF_length])
   have h2:p.length<(p++(⟨s,s+1,z.nums⟩:Eff)::zs).length:=by simp
   have hat2:eAt (p++(⟨s,s+1,z.nums⟩:Eff)::zs) p.length=⟨s,s+1,z.nums⟩:=by simp[eAt,List.getD]
   have g3:(effs (p++(⟨s,s+1,z.nums⟩:Eff)::zs))[p.length * 3+2]?=some (.lst z.nums.length (fls .f32 z.nums)):=by
    rw[eff_get (c:=2) (by decide) _ _ h2,hat2];rfl
   have g4:okAt [.lst] (effs (p++(⟨s,s+1,z.nums⟩:Eff)::zs)) (p.length * 3+2)=true:=by simp[okAt,g3,isCK]
   have g5:nAt (effs (p++(⟨s,s+1,z.nums⟩:Eff)::zs)) (p.length * 3+2)=z.nums.length:=by unfold nAt;rw[g3]
   have g6:lAt (effs (p++(⟨s,s+1,z.nums⟩:Eff)::zs)) (p.length * 3+2)=fls .f32 z.nums:=by unfold lAt;rw[g3]
   have e3:=mark32 n z.nums (by omega) (s+2) (by omega) (by omega) (by omega)
   have step:=ih (p++[⟨s,s+1,marksF .f32 (s+2) z.nums.length⟩]) (s+2+(z.nums.length:Int)) m (fun e he=>hx e (by simp[he])) (by omega) (by omega) (by simp at hp ⊢;omega) (by simp at hm;omega)
   rw[f115.l0,lt_mid,in_mid,toNat_len,wrap_len (z:=z) (show p.length<4611686018427387904 by simp at hp;omega)]
   simp only[br_t,gd_t,hb z 0 (by decide),e0,w1,hb _ 1 (by decide),e1,w2,g4,Bool.and_self,g5,g6,e3,bd_s,e2]
   have q1:(p++[(⟨s,s+1,marksF .f32 (s+2) z.nums.length⟩:Eff)])++zs=p++⟨s,s+1,marksF .f32 (s+2) z.nums.length⟩::zs:=by simp
   have q2:(p++[(⟨s,s+1,marksF .f32 (s+2) z.nums.length⟩:Eff)])++marksE (s+2+(z.nums.length:Int)) zs=p++marksE s (z::zs):=by simp[marksE]
   rw[q1,q2,hlen] at step
   have q3:(p++[(⟨s,s+1,marksF .f32 (s+2) z.nums.length⟩:Eff)]).length=(p++[z]).length:=by simp
   rw[q3] at step
   rw[step]
   congr 3
   simp only[nmE,List.length_cons];omega
theorem mks_c (n:Nat) (es:List Eff) (hx:∀ e∈es,e.nums.length≤1048576) (hl:es.length≤1048576) (s:Int) (h0:0≤s) (h1:s+2 * (es.length:Int)+(nmE es:Int)≤1099511627776) (hn:1048576<n) :
  f115 (n+2) es.length (effs es) s=some (s+2 * (es.length:Int)+(nmE es:Int),es.length,effs (marksE s es)):=by
 have e:=mkl_c n hn es [] s (n+1) hx h0 h1 (by simpa using hl) (by omega)
 have e:f115.l0 (n+1) (n+1) es.length (effs es) s 0=some (es.length,effs (marksE s es),s+2 * (es.length:Int)+(nmE es:Int)):=e
 rw[f115,e];rfl
structure Fin (cl:List Eff) (ss:List Strp):Prop where
 c:szE cl≤1048576
 s:szSt ss≤1048576
structure Huge (cl:List Eff) (ss:List Strp):Prop where
 c:cl.length≤9223372036854775807
 cn:∀ e∈cl,e.nums.length≤9223372036854775807
 s:ss.length≤9223372036854775807
 se:∀ s∈ss,s.es.length≤9223372036854775807∧∀ e∈s.es,e.nums.length≤9223372036854775807
theorem sz1_st (n:Nat) (s:Strp) (hx:s.es.length≤9223372036854775807∧∀ e∈s.es,e.nums.length≤9223372036854775807) (left:Int) (h0:0≤left) (h1:left≤1048576) (hn:1048577<n) :
  f151 (n+4) s.es.length (effs s.es) s.tn s.pan s.mute s.solo left=some (leftM left (szE s.es)):=by
 rw[f151,szs_e n s.es hx.2 hx.1 left h0 h1 hn]
 simp only[bd_s,leftM_neg h0]
 by_cases h:(szE s.es:Int)≤left
 ·rw[decide_eq_true h];rfl
 ·rw[decide_eq_false h];unfold leftM;rw[if_neg h];rfl
theorem szl_st (n:Nat) (hn:1048577<n) (ss:List Strp) (hx:∀ s∈ss,s.es.length≤9223372036854775807∧∀ e∈s.es,e.nums.length≤9223372036854775807) (hl:ss.length≤1048576):∀ (j i m:Nat) (left:Int),0≤left→left≤1048576→i+j=ss.length→j<m →
  f110.l0 (n+4) m ss.length (strps ss) left (i:Int)=some (if (nmSt (ss.drop i):Int)≤left then Sum.inr (left - (nmSt (ss.drop i):Int)) else Sum.inl (-1)):=by
 intro j
 induction j with
 | zero =>
   intro i m left h0 h1 hi hm
   obtain ⟨m,rfl⟩:∃ k,m=k+1:=⟨m - 1,by omega⟩
   rw[f110.l0,nlt_dec (by omega),List.drop_eq_nil_of_le (by omega)]
   simp[br,nmSt,h0]
 | succ j ih =>
   intro i m left h0 h1 hi hm
   obtain ⟨m,rfl⟩:∃ k,m=k+1:=⟨m - 1,by omega⟩
   have h:i<ss.length:=by omega
   have e1:=sz1_st n (sAt5 ss i) (hx _ (sAt5_mem h)) left h0 h1 hn
   rw[f110.l0,lt_dec h,in_dec h,Int.toNat_natCast,okS5 h,st_drop h,nmSt]
   simp only[br_t,Bool.and_self,gd_t,nS5 h,lS5 h,tS5 h,pS5 h,mS5 h,oS5 h,e1,bd_s,leftM_neg h0,wrap_succ (show i<9223372036854775807 by omega)]
   by_cases hc:(szE (sAt5 ss i).es:Int)≤left
   ·rw[decide_eq_true hc]
    simp only[Bool.not_true,br_f]
    have hL:leftM left (szE (sAt5 ss i).es)=left - (szE (sAt5 ss i).es:Int):=by unfold leftM;rw[if_pos hc]
    rw[hL,ih (i+1) m _ (by omega) (by omega) (by omega) (by omega)]
    congr 1
    by_cases h2:(nmSt (ss.drop (i+1)):Int)≤left - (szE (sAt5 ss i).es:Int)
    ·rw[if_pos h2,if_pos (by omega)];congr 1;omega
    ·rw[if_neg h2,if_neg (by omega)]
   ·rw[decide_eq_false hc,if_neg (by omega)];rfl
theorem szs_st (n:Nat) (ss:List Strp) (hx:∀ s∈ss,s.es.length≤9223372036854775807∧∀ e∈s.es,e.nums.length≤9223372036854775807) (hx2:ss.length≤9223372036854775807) (left:Int) (h0:0≤left) (h1:left≤1048576) (hn:1048577<n) :
  f110 (n+5) ss.length (strps ss) left=some (leftM left (szSt ss)):=by
 rw[f110,show IntKind.i64.wrap (left - (ss.length:Int))=left - (ss.length:Int) by rw[wrap64] <;>omega,szSt_nm]
 unfold leftM
 by_cases h:(ss.length:Int)≤left
 ·have e:=szl_st n hn ss hx (by omega) ss.length 0 (n+4) (left - (ss.length:Int)) (by omega) (by omega) (by omega) (by omega)
  have e:f110.l0 (n+4) (n+4) ss.length (strps ss) (left - (ss.length:Int)) 0=_:=e
  rw[decide_eq_false (by omega),e,List.drop_zero]
  by_cases h2:(nmSt ss:Int)≤left - (ss.length:Int)
  ·rw[if_pos h2,if_pos (by omega)]
   simp only[br_f,bd_s,sm_r]
   congr 1;omega
  ·rw[if_neg h2,if_neg (by omega)];rfl
 ·rw[decide_eq_true (by omega),if_neg (by omega)];rfl
theorem sz_sess (n:Nat) (cl:List Eff) (ss:List Strp) (h:Huge cl ss) (hn:1048577<n) :
  (∃ r:Int,0≤r∧f55 (n+6) cl.length (effs cl) ss.length (strps ss) 1048576=some r∧Fin cl ss)∨f55 (n+6) cl.length (effs cl) ss.length (strps ss) 1048576=some (-1):=by
 rw[f55,szs_c (n+2) cl h.cn h.c 1048576 (by omega) (by omega) (by omega)]
 simp only[bd_s,leftM_neg (show (0:Int)≤1048576 by omega)]
 by_cases h1:(szE cl:Int)≤1048576
 ·rw[decide_eq_true h1]
  have hL:leftM 1048576 (szE cl)=1048576 - (szE cl:Int):=by unfold leftM;rw[if_pos h1]
  simp only[Bool.not_true,br_f,hL,szs_st n ss h.se h.s (1048576 - (szE cl:Int)) (by omega) (by omega) hn,bd_s,leftM_neg (show (0:Int)≤1048576 - (szE cl:Int) by omega)]
  by_cases h2:(szSt ss:Int)≤1048576 - (szE cl:Int)
  ·rw[decide_eq_true h2]
   refine .inl ⟨1048576 - (szE cl:Int) - (szSt ss:Int),by omega,?_,⟨by omega,by omega⟩⟩
   unfold leftM;rw[if_pos h2];rfl
  ·rw[decide_eq_false h2];exact .inr rfl
 ·rw[decide_eq_false h1];exact .inr rfl
theorem fin_c {cl:List Eff} {ss:List Strp} (h:Fin cl ss):cl.length≤1048576∧∀ e∈cl,e.nums.length≤1048576 :=
 ⟨Nat.le_trans (szE_len cl) h.c,fun e he=>Nat.le_trans (szE_num cl e he) h.c⟩
theorem fin_s {cl:List Eff} {ss:List Strp} (h:Fin cl ss):ss.length≤1048576∧∀ s∈ss,s.es.length≤1048576∧∀ e∈s.es,e.nums.length≤1048576 :=
 ⟨Nat.le_trans (szSt_len ss) h.s,fun s hs=>by
   have h1:=Nat.le_trans (szSt_es ss s hs) h.s
   exact ⟨Nat.le_trans (szE_len _) h1,fun e he=>Nat.le_trans (szE_num _ e he) h1⟩⟩
theorem to1_st (n:Nat) (s:Strp) (hx:s.es.length≤1048576∧∀ e∈s.es,e.nums.length≤1048576) (hn:1048576<n):f153 (n+4) s.es.length (effs s.es) s.tn s.pan s.mute s.solo=some (s.es.length,effs s.es,s.tn,s.pan,s.mute,s.solo):=by
 rw[f153,tos_e n s.es hx.2 hx.1 hn];rfl
theorem tol_st (n:Nat) (ss:List Strp) (hx:∀ s∈ss,s.es.length≤1048576∧∀ e∈s.es,e.nums.length≤1048576) (hl:ss.length≤1048576) (hn:1048576<n):∀ (j i m:Nat) (ys:List Strp),ys.length=ss.length→i+j=ss.length→j<m →
  f112.l0 (n+4) m ss.length (strps ss) ss.length (strps (ss.take i++ys.drop i)) (i:Int)=some (ss.length,strps ss):=by
 intro j
 induction j with
 | zero =>
   intro i m ys hy hi hm
   obtain ⟨m,rfl⟩:∃ k,m=k+1:=⟨m - 1,by omega⟩
   rw[f112.l0,nlt_dec (by omega),List.take_of_length_le (by omega),List.drop_eq_nil_of_le (by omega),List.append_nil];rfl
 | succ j ih =>
   intro i m ys hy hi hm
   obtain ⟨m,rfl⟩:∃ k,m=k+1:=⟨m - 1,by omega⟩
   have h:i<ss.length:=by omega
   have hlen:(ss.take i++ys.drop i).length=ss.length:=by rw[List.length_append,List.length_take,List.length_drop];omega
   have h':i<(ss.take i++ys.drop i).length:=by omega
   have hb:Nat.ble (i * 5+0+5) (strps (ss.take i++ys.drop i)).length=true:=by rw[strps_length,hlen];exact le_ble (by omega)
   have hset:(ss.take i++ys.drop i).set i (sAt5 ss i)=ss.take (i+1)++ys.drop (i+1):=by
    have:sAt5 ss i=ss[i]:=by simp[sAt5,List.getD,h]
    rw[this];exact take_set_drop h hy
   rw[f112.l0,lt_dec h,in_dec h,Int.toNat_natCast,okS5 h]
   simp only[br_t,Bool.and_self,gd_t,nS5 h,lS5 h,tS5 h,pS5 h,mS5 h,oS5 h,to1_st n (sAt5 ss i) (hx _ (sAt5_mem h)) hn,bd_s,hb,st_row h' (sAt5 ss i),hset,wrap_succ (show i<9223372036854775807 by omega)]
   exact ih (i+1) m ys hy (by omega) (by omega)
theorem tos_st (n:Nat) (ss:List Strp) (hx:∀ s∈ss,s.es.length≤1048576∧∀ e∈s.es,e.nums.length≤1048576) (hl:ss.length≤1048576) (hn:1048576<n):f112 (n+5) ss.length (strps ss)=some (ss.length,strps ss):=by
 have e:=tol_st n ss hx hl hn ss.length 0 (n+4) (List.replicate ss.length ⟨[],0,0,false,false⟩) (by simp) (by omega) (by omega)
 rw[List.take_zero,List.drop_zero,List.nil_append] at e
 have e:f112.l0 (n+4) (n+4) ss.length (strps ss) ss.length (strps (List.replicate ss.length ⟨[],0,0,false,false⟩)) 0=_:=e
 rw[f112,decide_eq_true (show (0:Int)≤(ss.length:Int)∧(ss.length:Int)≤2147483648 by omega),reps_strps]
 simp only[gd_t,e,bd_s]
theorem to_sess (n:Nat) (cl:List Eff) (ss:List Strp) (h:Fin cl ss) (hn:1048576<n):f56 (n+6) cl.length (effs cl) ss.length (strps ss)=some (cl.length,effs cl,ss.length,strps ss):=by
 rw[f56,tos_c (n+2) cl (fin_c h).2 (fin_c h).1 (by omega)]
 simp only[bd_s,tos_st n ss (fin_s h).2 (fin_s h).1 hn]
theorem eq1_st (n:Nat) (s:Strp) (hx:s.es.length≤1048576∧∀ e∈s.es,e.nums.length≤1048576) (hn:1048576<n) :
  f155 (n+5) s.es.length (effs s.es) s.tn s.pan s.mute s.solo s.es.length (effs s.es) s.tn s.pan s.mute s.solo=some true:=by
 rw[f155,eqs_e n s.es hx.2 hx.1 hn,fltToFlt_wide]
 simp only[bd_s,Bool.not_true,br_f,bne_self_eq_false,same_self,beq_self_eq_true]
theorem eql_st (n:Nat) (ss:List Strp) (hx:∀ s∈ss,s.es.length≤1048576∧∀ e∈s.es,e.nums.length≤1048576) (hl:ss.length≤1048576) (hn:1048576<n):∀ (j i m:Nat),i+j=ss.length→j<m →
  f114.l0 (n+5) m ss.length (strps ss) ss.length (strps ss) (i:Int)=some (Sum.inr ()):=by
 intro j
 induction j with
 | zero =>
   intro i m hi hm
   obtain ⟨m,rfl⟩:∃ k,m=k+1:=⟨m - 1,by omega⟩
   rw[f114.l0,nlt_dec (by omega)];rfl
 | succ j ih =>
   intro i m hi hm
   obtain ⟨m,rfl⟩:∃ k,m=k+1:=⟨m - 1,by omega⟩
   have h:i<ss.length:=by omega
   rw[f114.l0,lt_dec h,in_dec h,Int.toNat_natCast,okS5 h]
   simp only[br_t,Bool.and_self,gd_t,nS5 h,lS5 h,tS5 h,pS5 h,mS5 h,oS5 h,eq1_st n (sAt5 ss i) (hx _ (sAt5_mem h)) hn,bd_s,Bool.not_true,br_f,wrap_succ (show i<9223372036854775807 by omega)]
   exact ih (i+1) m (by omega) (by omega)
theorem eqs_st (n:Nat) (ss:List Strp) (hx:∀ s∈ss,s.es.length≤1048576∧∀ e∈s.es,e.nums.length≤1048576) (hl:ss.length≤1048576) (hn:1048576<n):f114 (n+6) ss.length (strps ss) ss.length (strps ss)=some true:=by
 have e:=eql_st n ss hx hl hn ss.length 0 (n+5) (by omega) (by omega)
 have e:f114.l0 (n+5) (n+5) ss.length (strps ss) ss.length (strps ss) 0=_:=e
 rw[f114]
 simp only[bne_self_eq_false,br_f,e,bd_s,sm_r]
theorem eq_sess (n:Nat) (cl:List Eff) (ss:List Strp) (h:Fin cl ss) (hn:1048576<n):f57 (n+7) cl.length (effs cl) ss.length (strps ss) cl.length (effs cl) ss.length (strps ss)=some true:=by
 rw[f57,eqs_c (n+2) cl (fin_c h).2 (fin_c h).1 (by omega)]
 simp only[bd_s,Bool.not_true,br_f,eqs_st n ss (fin_s h).2 (fin_s h).1 hn]
def mkE (es:List Eff):Int:=2 * (es.length:Int)+(nmE es:Int)
def marksSt:Int→List Strp→List Strp
 | _,[]=>[]
 | s,t::ts=>⟨marksE s t.es,s+mkE t.es,FloatKind.f32.nearest (s+mkE t.es+1),Int.tmod (s+mkE t.es+2) 3==0,Int.tmod (s+mkE t.es+3) 3==0⟩::marksSt (s+mkE t.es+4) ts
def mkSt:List Strp→Int
 | []=>0
 | t::ts=>mkE t.es+4+mkSt ts
theorem mkE_nonneg (es:List Eff):0≤mkE es:=by unfold mkE;omega
theorem mkSt_nonneg:∀ (ss:List Strp),0≤mkSt ss
 | []=>Int.le_refl _
 | t::ts=>by have:=mkSt_nonneg ts;have:=mkE_nonneg t.es;simp only[mkSt];omega
theorem mkE_le (es:List Eff):mkE es≤2 * (szE es:Int):=by unfold mkE;rw[szE_nm];omega
theorem mkSt_le:∀ (ss:List Strp),mkSt ss≤4 * (szSt ss:Int)
 | []=>by simp[mkSt,szSt]
 | t::ts=>by have:=mkSt_le ts;have:=mkE_le t.es;simp only[mkSt,szSt];omega
theorem mkl_st (n:Nat) (hn:1048576<n):∀ (zs p:List Strp) (s:Int) (m:Nat),(∀ t∈zs,t.es.length≤1048576∧∀ e∈t.es,e.nums.length≤1048576)→0≤s→s+mkSt zs≤1099511627776→p.length+zs.length≤1048576→zs.length<m →
  f116.l0 (n+2) m (p++zs).length (strps (p++zs)) s (p.length:Int)=some ((p++zs).length,strps (p++marksSt s zs),s+mkSt zs):=by
 intro zs
 induction zs with
 | nil =>
   intro p s m _ _ _ _ hm
   obtain ⟨m,rfl⟩:∃ k,m=k+1:=⟨m - 1,by simp at hm;omega⟩
   rw[f116.l0,lt_end]
   simp[br,marksSt,mkSt]
 | cons z zs ih =>
   intro p s m hx h0 h1 hp hm
   obtain ⟨m,rfl⟩:∃ k,m=k+1:=⟨m - 1,by simp at hm;omega⟩
   have hz:=hx z (by simp)
   have hmk:=mkE_nonneg z.es
   have hmk2:=mkSt_nonneg zs
   simp only[mkSt] at h1
   have h:p.length<(p++z::zs).length:=by simp
   have hlen:∀ y,(p++y::zs).length=(p++z::zs).length:=fun y=>by simp
   have hb:∀ (y:Strp) (c:Nat),c<5→Nat.ble (p.length * 5+c+1) (strps (p++y::zs)).length=true:=fun y c hc=>by
    rw[strps_length];apply le_ble;simp;omega
   have st:∀ (y z':Strp) (c:Nat) (v:T),c<5→stC z'=(stC y).set c v→setN (strps (p++y::zs)) (p.length * 5+c) [v]=strps (p++z'::zs):=fun y z' c v hc hy=>by
    rw[setN_one]
    have:=rows_set stC_length ⟨[],0,0,false,false⟩ (p++y::zs) p.length c v z' (by simp) hc (by simpa [List.getD] using hy)
    unfold strps
    rw[this];simp
   generalize hK:mkE z.es=K at *
   have w1:IntKind.i64.wrap (s+K+1)=s+K+1:=by rw[wrap64] <;>omega
   have w2:IntKind.i64.wrap (s+K+1+1)=s+K+2:=by rw[wrap64] <;>omega
   have w3:IntKind.i64.wrap (s+K+2+1)=s+K+3:=by rw[wrap64] <;>omega
   have w4:IntKind.i64.wrap (s+K+3+1)=s+K+4:=by rw[wrap64] <;>omega
   have em:=mks_e n z.es hz.2 hz.1 s h0 (by unfold mkE at hK;omega) hn
   have hK':s+2 * (z.es.length:Int)+(nmE z.es:Int)=s+K:=by rw[← hK];unfold mkE;omega
   rw[hK'] at em
   have e0:=st z ⟨marksE s z.es,z.tn,z.pan,z.mute,z.solo⟩ 0 (.lst z.es.length (effs (marksE s z.es))) (by decide) (by simp[stC,marksE_length])
   have e1:=st ⟨marksE s z.es,z.tn,z.pan,z.mute,z.solo⟩ ⟨marksE s z.es,s+K,z.pan,z.mute,z.solo⟩ 1 (.int .i64 (s+K)) (by decide) rfl
   have e2:=st ⟨marksE s z.es,s+K,z.pan,z.mute,z.solo⟩ ⟨marksE s z.es,s+K,FloatKind.f32.nearest (s+K+1),z.mute,z.solo⟩ 2 (.flt .f32 (FloatKind.f32.nearest (s+K+1))) (by decide) rfl
   have e3:=st ⟨marksE s z.es,s+K,FloatKind.f32.nearest (s+K+1),z.mute,z.solo⟩ ⟨marksE s z.es,s+K,FloatKind.f32.nearest (s+K+1),Int.tmod (s+K+2) 3==0,z.solo⟩ 3 (.bool (Int.tmod (s+K+2) 3==0)) (by decide) rfl
   have e4:=st ⟨marksE s z.es,s+K,FloatKind.f32.nearest (s+K+1),Int.tmod (s+K+2) 3==0,z.solo⟩ ⟨marksE s z.es,s+K,FloatKind.f32.nearest (s+K+1),Int.tmod (s+K+2) 3==0,Int.tmod (s+K+3) 3==0⟩ 4 (.bool (Int.tmod (s+K+3) 3==0)) (by decide) rfl
   have hat:sAt5 (p++z::zs) p.length=z:=by simp[sAt5,List.getD]
   have g3:(strps (p++z::zs))[p.length * 5+0]?=some (.lst z.es.length (effs z.es)):=by
    rw[st_get (c:=0) (by decide) _ _ h,hat];rfl
   have g4:okAt [.lst] (strps (p++z::zs)) (p.length * 5+0)=true:=by simp only[okAt,g3,isCK,Bool.and_self]
   have g5:nAt (strps (p++z::zs)) (p.length * 5+0)=z.es.length:=by unfold nAt;rw[g3]
   have g6:lAt (strps (p++z::zs)) (p.length * 5+0)=effs z.es:=by unfold lAt;rw[g3]
   have step:=ih (p++[⟨marksE s z.es,s+K,FloatKind.f32.nearest (s+K+1),Int.tmod (s+K+2) 3==0,Int.tmod (s+K+3) 3==0⟩]) (s+K+4) m (fun t ht=>hx t (by simp[ht])) (by omega) (by omega) (by simp at hp ⊢;omega) (by simp at hm;omega)
   rw[f116.l0,lt_mid,in_mid,toNat_len,wrap_len (z:=z) (show p.length<4611686018427387904 by simp at hp;omega)]
   simp only[br_t,gd_t,g4,Bool.and_self,g5,g6,em,bd_s,e0,hb _ 1 (by decide),e1,w1,hb _ 2 (by decide),e2,w2,hb _ 3 (by decide),e3,w3,hb _ 4 (by decide),e4,w4]
   have q1:(p++[(⟨marksE s z.es,s+K,FloatKind.f32.nearest (s+K+1),Int.tmod (s+K+2) 3==0,Int.tmod (s+K+3) 3==0⟩:Strp)])++zs=p++⟨marksE s z.es,s+K,FloatKind.f32.nearest (s+K+1),Int.tmod (s+K+2) 3==0,Int.tmod (s+K+3) 3==0⟩::zs:=by simp
   have q2:(p++[(⟨marksE s z.es,s+K,FloatKind.f32.nearest (s+K+1),Int.tmod (s+K+2) 3==0,Int.tmod (s+K+3) 3==0⟩:Strp)])++marksSt (s+K+4) zs=p++marksSt s (z::zs):=by simp[marksSt,hK]
   have q3:(p++[(⟨marksE s z.es,s+K,FloatKind.f32.nearest (s+K+1),Int.tmod (s+K+2) 3==0,Int.tmod (s+K+3) 3==0⟩:Strp)]).length=(p++[z]).length:=by simp
   rw[q1,q2,q3,hlen] at step
   rw[step]
   congr 3
   simp only[mkSt,hK];omega
theorem mks_st (n:Nat) (ss:List Strp) (hx:∀ s∈ss,s.es.length≤1048576∧∀ e∈s.es,e.nums.length≤1048576) (hl:ss.length≤1048576) (s:Int) (h0:0≤s) (h1:s+mkSt ss≤1099511627776) (hn:1048576<n) :
  f116 (n+3) ss.length (strps ss) s=some (s+mkSt ss,ss.length,strps (marksSt s ss)):=by
 have e:=mkl_st n hn ss [] s (n+2) hx h0 h1 (by simpa using hl) (by omega)
 have e:f116.l0 (n+2) (n+2) ss.length (strps ss) s 0=some (ss.length,strps (marksSt s ss),s+mkSt ss):=e
 rw[f116,e];rfl
theorem mk_sess (n:Nat) (cl:List Eff) (ss:List Strp) (h:Fin cl ss) (hn:1048576<n):f58 (n+4) cl.length (effs cl) ss.length (strps ss) 1=some (1+mkE cl+mkSt ss,cl.length,effs (marksE 1 cl),ss.length,strps (marksSt (1+mkE cl) ss)):=by
 have b1:=mkE_le cl
 have b2:=mkSt_le ss
 have b3:=mkE_nonneg cl
 have b4:=mkSt_nonneg ss
 have hc:=h.c
 have hs:=h.s
 have e1:=mks_c (n+1) cl (fin_c h).2 (fin_c h).1 1 (by omega) (by unfold mkE at b1;omega) (by omega)
 have e2:=mks_st n ss (fin_s h).2 (fin_s h).1 (1+mkE cl) (by omega) (by omega) hn
 have hq:(1:Int)+2 * (cl.length:Int)+(nmE cl:Int)=1+mkE cl:=by unfold mkE;omega
 rw[hq] at e1
 rw[f58,e1]
 simp only[bd_s,e2]
theorem hdl_e (n:Nat) (hn:1048576<n):∀ (zs p:List Eff) (s:Int) (m:Nat),(∀ e∈zs,e.nums.length≤1048576)→0≤s→s+mkE zs≤1099511627776→p.length+zs.length≤1048576→zs.length<m →
  f159.l0 (n+1) m (p++marksE s zs).length (effs (p++marksE s zs)) s (p.length:Int)=some (.inr (s+mkE zs)):=by
 intro zs
 induction zs with
 | nil =>
   intro p s m _ _ _ _ hm
   obtain ⟨m,rfl⟩:∃ k,m=k+1:=⟨m - 1,by omega⟩
   rw[f159.l0,show marksE s []=[] from rfl,lt_end]
   simp[br,mkE,nmE]
 | cons z zs ih =>
   intro p s m hx h0 h1 hp hm
   obtain ⟨m,rfl⟩:∃ k,m=k+1:=⟨m - 1,by omega⟩
   have hz:=hx z (by simp)
   have hk:mkE (z::zs)=2+(z.nums.length:Int)+mkE zs:=by simp only[mkE,nmE,List.length_cons];omega
   have hk0:=mkE_nonneg zs
   rw[hk] at h1 ⊢
   have hm1:marksE s (z::zs)=⟨s,s+1,marksF .f32 (s+2) z.nums.length⟩::marksE (s+2+(z.nums.length:Int)) zs:=rfl
   rw[hm1]
   generalize hQ:marksE (s+2+(z.nums.length:Int)) zs=Q
   have h:p.length<(p++(⟨s,s+1,marksF .f32 (s+2) z.nums.length⟩:Eff)::Q).length:=by simp
   have hat:eAt (p++(⟨s,s+1,marksF .f32 (s+2) z.nums.length⟩:Eff)::Q) p.length=⟨s,s+1,marksF .f32 (s+2) z.nums.length⟩:=by simp[eAt,List.getD]
   have w1:IntKind.i64.wrap (s+1)=s+1:=by rw[wrap64] <;>omega
   have w2:IntKind.i64.wrap (s+1+1)=s+2:=by rw[wrap64] <;>omega
   have e3:=held32 n z.nums.length (by omega) (s+2) (by omega) (by omega) (by omega)
   have step:=ih (p++[⟨s,s+1,marksF .f32 (s+2) z.nums.length⟩]) (s+2+(z.nums.length:Int)) m (fun e he=>hx e (by simp[he])) (by omega) (by omega) (by simp at hp ⊢;omega) (by simp at hm;omega)
   rw[hQ] at step
   have q1:(p++[(⟨s,s+1,marksF .f32 (s+2) z.nums.length⟩:Eff)])++Q=p++⟨s,s+1,marksF .f32 (s+2) z.nums.length⟩::Q:=by simp
   rw[q1] at step
   rw[f159.l0,lt_mid,in_mid,toNat_len,wrap_len (z:=(⟨s,s+1,marksF .f32 (s+2) z.nums.length⟩:Eff)) (show p.length<4611686018427387904 by simp at hp;omega),okE h]
   simp only[br_t,Bool.and_self,gd_t,kE h,gE h,nE h,lE h,hat,marksF_length,bne_self_eq_false,br_f,w1,w2,e3,bd_s,decide_eq_false (show ¬ (s+2+(z.nums.length:Int)<0) by omega)]
   rw[step]
   congr 2;omega
theorem hds_e (n:Nat) (es:List Eff) (hx:∀ e∈es,e.nums.length≤1048576) (hl:es.length≤1048576) (s:Int) (h0:0≤s) (h1:s+mkE es≤1099511627776) (hn:1048576<n) :
  f159 (n+2) es.length (effs (marksE s es)) s=some (s+mkE es):=by
 have e:=hdl_e n hn es [] s (n+1) hx h0 h1 (by simpa using hl) (by omega)
 simp only[List.nil_append,marksE_length] at e
 have e:f159.l0 (n+1) (n+1) es.length (effs (marksE s es)) s 0=_:=e
 rw[f159,e];rfl
theorem hdl_c (n:Nat) (hn:1048576<n):∀ (zs p:List Eff) (s:Int) (m:Nat),(∀ e∈zs,e.nums.length≤1048576)→0≤s→s+mkE zs≤1099511627776→p.length+zs.length≤1048576→zs.length<m →
  f117.l0 (n+1) m (p++marksE s zs).length (effs (p++marksE s zs)) s (p.length:Int)=some (.inr (s+mkE zs)):=by
 intro zs
 induction zs with
 | nil =>
   intro p s m _ _ _ _ hm
   obtain ⟨m,rfl⟩:∃ k,m=k+1:=⟨m - 1,by omega⟩
   rw[f117.l0,show marksE s []=[] from rfl,lt_end]
   simp[br,mkE,nmE]
 | cons z zs ih =>
   intro p s m hx h0 h1 hp hm
   obtain ⟨m,rfl⟩:∃ k,m=k+1:=⟨m - 1,by omega⟩
   have hz:=hx z (by simp)
   have hk:mkE (z::zs)=2+(z.nums.length:Int)+mkE zs:=by simp only[mkE,nmE,List.length_cons];omega
   have hk0:=mkE_nonneg zs
   rw[hk] at h1 ⊢
   have hm1:marksE s (z::zs)=⟨s,s+1,marksF .f32 (s+2) z.nums.length⟩::marksE (s+2+(z.nums.length:Int)) zs:=rfl
   rw[hm1]
   generalize hQ:marksE (s+2+(z.nums.length:Int)) zs=Q
   have h:p.length<(p++(⟨s,s+1,marksF .f32 (s+2) z.nums.length⟩:Eff)::Q).length:=by simp
   have hat:eAt (p++(⟨s,s+1,marksF .f32 (s+2) z.nums.length⟩:Eff)::Q) p.length=⟨s,s+1,marksF .f32 (s+2) z.nums.length⟩:=by simp[eAt,List.getD]
   have w1:IntKind.i64.wrap (s+1)=s+1:=by rw[wrap64] <;>omega
   have w2:IntKind.i64.wrap (s+1+1)=s+2:=by rw[wrap64] <;>omega
   have e3:=held32 n z.nums.length (by omega) (s+2) (by omega) (by omega) (by omega)
   have step:=ih (p++[⟨s,s+1,marksF .f32 (s+2) z.nums.length⟩]) (s+2+(z.nums.length:Int)) m (fun e he=>hx e (by simp[he])) (by omega) (by omega) (by simp at hp ⊢;omega) (by simp at hm;omega)
   rw[hQ] at step
   have q1:(p++[(⟨s,s+1,marksF .f32 (s+2) z.nums.length⟩:Eff)])++Q=p++⟨s,s+1,marksF .f32 (s+2) z.nums.length⟩::Q:=by simp
   rw[q1] at step
   rw[f117.l0,lt_mid,in_mid,toNat_len,wrap_len (z:=(⟨s,s+1,marksF .f32 (s+2) z.nums.length⟩:Eff)) (show p.length<4611686018427387904 by simp at hp;omega),okE h]
   simp only[br_t,Bool.and_self,gd_t,kE h,gE h,nE h,lE h,hat,marksF_length,bne_self_eq_false,br_f,w1,w2,e3,bd_s,decide_eq_false (show ¬ (s+2+(z.nums.length:Int)<0) by omega)]
   rw[step]
   congr 2;omega
theorem hds_c (n:Nat) (es:List Eff) (hx:∀ e∈es,e.nums.length≤1048576) (hl:es.length≤1048576) (s:Int) (h0:0≤s) (h1:s+mkE es≤1099511627776) (hn:1048576<n) :
  f117 (n+2) es.length (effs (marksE s es)) s=some (s+mkE es):=by
 have e:=hdl_c n hn es [] s (n+1) hx h0 h1 (by simpa using hl) (by omega)
 simp only[List.nil_append,marksE_length] at e
 have e:f117.l0 (n+1) (n+1) es.length (effs (marksE s es)) s 0=_:=e
 rw[f117,e];rfl
theorem marksSt_length:∀ (ss:List Strp) (s:Int),(marksSt s ss).length=ss.length
 | [],_=>rfl
 | t::ts,s=>by simp[marksSt,marksSt_length ts]
theorem hdl_st (n:Nat) (hn:1048576<n):∀ (zs p:List Strp) (s:Int) (m:Nat),(∀ t∈zs,t.es.length≤1048576∧∀ e∈t.es,e.nums.length≤1048576)→0≤s→s+mkSt zs≤1099511627776→p.length+zs.length≤1048576→zs.length<m →
  f118.l0 (n+2) m (p++marksSt s zs).length (strps (p++marksSt s zs)) s (p.length:Int)=some (.inr (s+mkSt zs)):=by
 intro zs
 induction zs with
 | nil =>
   intro p s m _ _ _ _ hm
   obtain ⟨m,rfl⟩:∃ k,m=k+1:=⟨m - 1,by omega⟩
   rw[f118.l0,show marksSt s []=[] from rfl,lt_end]
   simp[br,mkSt]
 | cons z zs ih =>
   intro p s m hx h0 h1 hp hm
   obtain ⟨m,rfl⟩:∃ k,m=k+1:=⟨m - 1,by omega⟩
   have hz:=hx z (by simp)
   have hmk:=mkE_nonneg z.es
   have hmk2:=mkSt_nonneg zs
   simp only[mkSt] at h1 ⊢
   have em:=hds_e n z.es hz.2 hz.1 s h0 (by omega) hn
   generalize hK:mkE z.es=K at *
   obtain ⟨Y,hY⟩:∃ Y:Strp,Y=⟨marksE s z.es,s+K,FloatKind.f32.nearest (s+K+1),Int.tmod (s+K+2) 3==0,Int.tmod (s+K+3) 3==0⟩:=⟨_,rfl⟩
   have hm1:marksSt s (z::zs)=Y::marksSt (s+K+4) zs:=by rw[hY,marksSt,hK]
   rw[hm1]
   generalize hQ:marksSt (s+K+4) zs=Q
   have h:p.length<(p++Y::Q).length:=by simp
   have hat:sAt5 (p++Y::Q) p.length=Y:=by simp[sAt5,List.getD]
   have w1:IntKind.i64.wrap (s+K+1)=s+K+1:=by rw[wrap64] <;>omega
   have w2:IntKind.i64.wrap (s+K+1+1)=s+K+2:=by rw[wrap64] <;>omega
   have w3:IntKind.i64.wrap (s+K+2+1)=s+K+3:=by rw[wrap64] <;>omega
   have w4:IntKind.i64.wrap (s+K+3+1)=s+K+4:=by rw[wrap64] <;>omega
   have y1:Y.es=marksE s z.es:=by rw[hY]
   have y2:Y.tn=s+K:=by rw[hY]
   have y3:Y.pan=FloatKind.f32.nearest (s+K+1):=by rw[hY]
   have y4:Y.mute=(Int.tmod (s+K+2) 3==0):=by rw[hY]
   have y5:Y.solo=(Int.tmod (s+K+3) 3==0):=by rw[hY]
   have step:=ih (p++[Y]) (s+K+4) m (fun t ht=>hx t (by simp[ht])) (by omega) (by omega) (by simp at hp ⊢;omega) (by simp at hm;omega)
   rw[hQ] at step
   have q1:(p++[Y])++Q=p++Y::Q:=by simp
   rw[q1] at step
   rw[f118.l0,lt_mid,in_mid,toNat_len,wrap_len (z:=Y) (show p.length<4611686018427387904 by simp at hp;omega),okS5 h]
   simp only[br_t,Bool.and_self,gd_t,nS5 h,lS5 h,tS5 h,pS5 h,mS5 h,oS5 h,hat,y1,marksE_length,em,bd_s,decide_eq_false (show ¬ (s+K<0) by omega),br_f,y2,bne_self_eq_false,w1,y3,nearest_fne,w2,y4,beq_self_eq_true,Bool.not_true,w3,y5,w4]
   rw[step]
   congr 2;omega
theorem hds_st (n:Nat) (ss:List Strp) (hx:∀ s∈ss,s.es.length≤1048576∧∀ e∈s.es,e.nums.length≤1048576) (hl:ss.length≤1048576) (s:Int) (h0:0≤s) (h1:s+mkSt ss≤1099511627776) (hn:1048576<n) :
  f118 (n+3) ss.length (strps (marksSt s ss)) s=some (s+mkSt ss):=by
 have e:=hdl_st n hn ss [] s (n+2) hx h0 h1 (by simpa using hl) (by omega)
 simp only[List.nil_append,marksSt_length] at e
 have e:f118.l0 (n+2) (n+2) ss.length (strps (marksSt s ss)) s 0=_:=e
 rw[f118,e];rfl
theorem hd_sess (n:Nat) (cl:List Eff) (ss:List Strp) (h:Fin cl ss) (hn:1048576<n):f59 (n+4) cl.length (effs (marksE 1 cl)) ss.length (strps (marksSt (1+mkE cl) ss)) 1=some (1+mkE cl+mkSt ss):=by
 have b1:=mkE_le cl
 have b2:=mkSt_le ss
 have b3:=mkE_nonneg cl
 have b4:=mkSt_nonneg ss
 have hc:=h.c
 have hs:=h.s
 have e1:=hds_c (n+1) cl (fin_c h).2 (fin_c h).1 1 (by omega) (by omega) (by omega)
 have e2:=hds_st n ss (fin_s h).2 (fin_s h).1 (1+mkE cl) (by omega) (by omega) hn
 rw[f59,e1]
 simp only[bd_s,e2,decide_eq_false (show ¬ (1+mkE cl<0) by omega),decide_eq_false (show ¬ (1+mkE cl+mkSt ss<0) by omega),br_f]
section
variable {E:Env} {tE tI tF tFs tEs tSt tCs tSs tS tC tB o1 o2 o3 o4 o5:Nat} {dE dI dF dFs dEs dSt dCs dSs dS dC dB:TD}
theorem effs_inv (hE:E.ty tE=some dE) (kE:dE.kd = .st [(o1,tI),(o2,tI),(o3,tFs)]) (hI:E.ty tI=some dI) (kI:dI.kd = .int .i64) (hFs:E.ty tFs=some dFs) (kFs:dFs.kd = .slc tF) (hF:E.ty tF=some dF) (kF:dF.kd = .flt .f32) :
  ∀ (n:Nat) (cs:List T),WTs E tE n cs→∃ es:List Eff,cs=effs es∧n=es.length∧∀ e∈es,GoodE e∧e.nums.length≤maxLen:=by
 intro n
 induction n with
 | zero=>intro cs h;cases h;exact ⟨[],rfl,rfl,by simp⟩
 | succ n ih =>
   intro cs h
   cases h with
   | snoc h hc =>
     obtain ⟨es,rfl,rfl,hx⟩:=ih _ h
     have hf:=hc.st_inv hE kE
     cases hf with
     | cons h1 r1 =>
       cases r1 with
       | cons h2 r2 =>
         cases r2 with
         | cons h3 r3 =>
           cases r3
           obtain ⟨a,rfl,ga⟩:=h1.int_inv hI kI
           obtain ⟨b,rfl,gb⟩:=h2.int_inv hI kI
           obtain ⟨k,us,rfl,gl,hu⟩:=h3.slc_inv hFs kFs
           obtain ⟨xs,rfl,rfl,gx⟩:=hu.flts hF kF
           refine ⟨es++[⟨a,b,xs⟩],?_,by simp,fun e he => ?_⟩
           ·unfold effs
            rw[List.flatMap_append];rfl
           ·simp only[List.mem_append,List.mem_singleton] at he
            rcases he with he | rfl
            ·exact hx e he
            ·exact ⟨⟨ga,gb,fun x hx=>(gx x hx).w32⟩,gl⟩
theorem strps_inv (hSt:E.ty tSt=some dSt) (kSt:dSt.kd = .st [(o1,tEs),(o2,tI),(o3,tF),(o4,tB),(o5,tB)]) (hB:E.ty tB=some dB) (kB:dB.kd = .bool) (hEs:E.ty tEs=some dEs) (kEs:dEs.kd = .slc tE) {p1 p2 p3:Nat}
  (hE:E.ty tE=some dE) (kE:dE.kd = .st [(p1,tI),(p2,tI),(p3,tFs)]) (hI:E.ty tI=some dI) (kI:dI.kd = .int .i64) (hFs:E.ty tFs=some dFs) (kFs:dFs.kd = .slc tF) (hF:E.ty tF=some dF) (kF:dF.kd = .flt .f32) :
  ∀ (n:Nat) (cs:List T),WTs E tSt n cs→∃ ss:List Strp,cs=strps ss∧n=ss.length∧∀ s∈ss,((∀ e∈s.es,GoodE e)∧GoodI .i64 s.tn∧W32 s.pan)∧s.es.length≤maxLen∧∀ e∈s.es,e.nums.length≤maxLen:=by
 intro n
 induction n with
 | zero=>intro cs h;cases h;exact ⟨[],rfl,rfl,by simp⟩
 | succ n ih =>
   intro cs h
   cases h with
   | snoc h hc =>
     obtain ⟨ss,rfl,rfl,hx⟩:=ih _ h
     have hf:=hc.st_inv hSt kSt
     cases hf with
     | cons h1 r1 =>
       cases r1 with
       | cons h2 r2 =>
         cases r2 with
         | cons h3 r3 =>
           cases r3 with
           | cons h4 r4 =>
             cases r4 with
             | cons h5 r5 =>
               cases r5
               obtain ⟨k,us,rfl,gl,hu⟩:=h1.slc_inv hEs kEs
               obtain ⟨es,rfl,rfl,ge⟩:=effs_inv hE kE hI kI hFs kFs hF kF _ _ hu
               obtain ⟨a,rfl,ga⟩:=h2.int_inv hI kI
               obtain ⟨p,rfl,gp⟩:=h3.flt_inv hF kF
               obtain ⟨b,rfl⟩:=h4.bool_inv hB kB
               obtain ⟨c,rfl⟩:=h5.bool_inv hB kB
               refine ⟨ss++[⟨es,a,p,b,c⟩],?_,by simp,fun s hs => ?_⟩
               ·unfold strps
                rw[List.flatMap_append];rfl
               ·simp only[List.mem_append,List.mem_singleton] at hs
                rcases hs with hs | rfl
                ·exact hx s hs
                ·exact ⟨⟨fun e he=>(ge e he).1,ga,gp.w32⟩,gl,fun e he=>(ge e he).2⟩
theorem session_inv (hS:E.ty tS=some dS) {q1 q2:Nat} (kS:dS.kd = .st [(q1,tCs),(q2,tSs)]) (hCs:E.ty tCs=some dCs) (kCs:dCs.kd = .slc tC) (hC:E.ty tC=some dC) {r1 r2 r3:Nat} (kC:dC.kd = .st [(r1,tI),(r2,tI),(r3,tFs)])
  (hSs:E.ty tSs=some dSs) (kSs:dSs.kd = .slc tSt)
  (hSt:E.ty tSt=some dSt) (kSt:dSt.kd = .st [(o1,tEs),(o2,tI),(o3,tF),(o4,tB),(o5,tB)]) (hB:E.ty tB=some dB) (kB:dB.kd = .bool) (hEs:E.ty tEs=some dEs) (kEs:dEs.kd = .slc tE) {p1 p2 p3:Nat}
  (hE:E.ty tE=some dE) (kE:dE.kd = .st [(p1,tI),(p2,tI),(p3,tFs)]) (hI:E.ty tI=some dI) (kI:dI.kd = .int .i64) (hFs:E.ty tFs=some dFs) (kFs:dFs.kd = .slc tF) (hF:E.ty tF=some dF) (kF:dF.kd = .flt .f32) {ts:List T} (h:WT E tS ts) :
  ∃ (cl:List Eff) (ss:List Strp),ts=[.lst cl.length (effs cl),.lst ss.length (strps ss)]∧GoodS cl ss∧Huge cl ss:=by
 have hm:maxLen≤9223372036854775807:=by decide
 have hf:=h.st_inv hS kS
 cases hf with
 | cons h1 r1 =>
   cases r1 with
   | cons h2 r2 =>
     cases r2
     obtain ⟨k,us,rfl,gl,hu⟩:=h1.slc_inv hCs kCs
     obtain ⟨cl,rfl,rfl,gc⟩:=effs_inv hC kC hI kI hFs kFs hF kF _ _ hu
     obtain ⟨k2,us2,rfl,gl2,hu2⟩:=h2.slc_inv hSs kSs
     obtain ⟨ss,rfl,rfl,gs⟩:=strps_inv hSt kSt hB kB hEs kEs hE kE hI kI hFs kFs hF kF _ _ hu2
     exact ⟨cl,ss,rfl,⟨fun c hc=>(gc c hc).1,fun s hs=>(gs s hs).1⟩,⟨by omega,fun e he=>Nat.le_trans (gc e he).2 hm,by omega,fun s hs=>⟨Nat.le_trans (gs s hs).2.1 hm,fun e he=>Nat.le_trans ((gs s hs).2.2 e he) hm⟩⟩⟩
end
theorem i_copychain_loop (n:Nat) (N:Nat) (ts:List T) (cs:List Eff) (hl:cs.length≤100) (hx:∀ e∈cs,e.nums.length≤1000):∀ (j i m:Nat) (P:List Eff),i+j=cs.length→P.length≤i→j<m →
  f78.l0 (n+1) m N ts P.length (effs P) cs.length (effs cs) (cs.length:Int) (i:Int)=some ((P++cs.drop i).length,effs (P++cs.drop i)):=by
 intro j
 induction j with
 | zero =>
   intro i m P hi hP hm
   obtain ⟨m,rfl⟩:∃ k,m=k+1:=⟨m - 1,by omega⟩
   rw[f78.l0,nlt_dec (by omega),List.drop_eq_nil_of_le (by omega),List.append_nil];rfl
 | succ j ih =>
   intro i m P hi hP hm
   obtain ⟨m,rfl⟩:∃ k,m=k+1:=⟨m - 1,by omega⟩
   have h:i<cs.length:=by omega
   have g:=i_copy n (eAt cs i).nums (by have:=hx _ (eAt_mem h);omega)
   have hp:=push_eff P (eAt cs i)
   unfold effC at hp
   rw[f78.l0,lt_dec h,in_dec h,Int.toNat_natCast,okE h]
   simp only[br_t,Bool.and_self,gd_t,kE h,gE h,nE h,lE h,g,bd_s,push_ok (show P.length<2147483648 by omega),hp]
   rw[push_len (z:=eAt cs i),wrap_succ (show i<9223372036854775807 by omega),ih (i+1) m _ (by omega) (by simp;omega) (by omega),eff_drop h]
   simp
theorem i_copychain (n:Nat) (hn:200<n) (cs:List Eff) (hl:cs.length≤100) (hx:∀ e∈cs,e.nums.length≤1000):f78 (n+2) cs.length (effs cs)=some (cs.length,effs cs):=by
 have e:=i_copychain_loop n cs.length (effs cs) cs hl hx cs.length 0 (n+1) [] (by omega) (by simp) (by omega)
 simp only[List.drop_zero,List.nil_append] at e
 have e:f78.l0 (n+1) (n+1) cs.length (effs cs) 0 [] cs.length (effs cs) (cs.length:Int) 0=_:=e
 rw[f78,e];rfl
theorem push_st (acc:List Strp) (s:Strp):strps acc++setN (reps 1 [(T.lst 0 []),(T.int .i64 (0:Int)),(T.flt .f32 0),(T.bool false),(T.bool false)]) 0 (stC s)=strps (acc++[s]):=by
 unfold strps
 rw[List.flatMap_append,List.flatMap_singleton];rfl
theorem i_own0 (n:Nat) (N1:Nat) (t1:List T) (N3:Nat) (t3:List T) (N5:Nat) (t5:List T) (N7:Nat) (t7:List T) (N11:Nat) (t11:List T) (cs:List Eff) (hl:cs.length≤100) (hx:∀ e∈cs,e.nums.length≤1000):∀ (j i m:Nat) (P:List Eff),i+j=cs.length→P.length≤i→j<m →
  f103.l0 (n+1) m N1 t1 N3 t3 N5 t5 N7 t7 P.length (effs P) N11 t11 cs.length (effs cs) (cs.length:Int) (i:Int)=some (N1,t1,N3,t3,N5,t5,N7,t7,(P++cs.drop i).length,effs (P++cs.drop i),N11,t11):=by
 intro j
 induction j with
 | zero =>
   intro i m P hi hP hm
   obtain ⟨m,rfl⟩:∃ k,m=k+1:=⟨m - 1,by omega⟩
   rw[f103.l0,nlt_dec (by omega),List.drop_eq_nil_of_le (by omega),List.append_nil];rfl
 | succ j ih =>
   intro i m P hi hP hm
   obtain ⟨m,rfl⟩:∃ k,m=k+1:=⟨m - 1,by omega⟩
   have h:i<cs.length:=by omega
   have g:=i_copy n (eAt cs i).nums (by have:=hx _ (eAt_mem h);omega)
   have hp:=push_eff P (eAt cs i)
   unfold effC at hp
   rw[f103.l0,lt_dec h,in_dec h,Int.toNat_natCast,okE h]
   simp only[br_t,Bool.and_self,gd_t,kE h,gE h,nE h,lE h,g,bd_s,push_ok (show P.length<2147483648 by omega),hp]
   rw[push_len (z:=eAt cs i),wrap_succ (show i<9223372036854775807 by omega),ih (i+1) m _ (by omega) (by simp;omega) (by omega),eff_drop h]
   simp
theorem i_own1 (n:Nat) (hn:200<n) (N1:Nat) (t1:List T) (N3:Nat) (t3:List T) (N5:Nat) (t5:List T) (N7:Nat) (t7:List T) (N9:Nat) (t9:List T) (ss:List Strp) (hl:ss.length≤100) (hx:∀ s∈ss,s.es.length≤100∧∀ e∈s.es,e.nums.length≤1000):∀ (j i m:Nat) (P:List Strp),i+j=ss.length→P.length≤i→j<m →
  f103.l1 (n+2) m N1 t1 N3 t3 N5 t5 N7 t7 N9 t9 P.length (strps P) ss.length (strps ss) (ss.length:Int) (i:Int)=some (N5,t5,N7,t7,N9,t9,(P++ss.drop i).length,strps (P++ss.drop i)):=by
 intro j
 induction j with
 | zero =>
   intro i m P hi hP hm
   obtain ⟨m,rfl⟩:∃ k,m=k+1:=⟨m - 1,by omega⟩
   rw[f103.l1,nlt_dec (by omega),List.drop_eq_nil_of_le (by omega),List.append_nil];rfl
 | succ j ih =>
   intro i m P hi hP hm
   obtain ⟨m,rfl⟩:∃ k,m=k+1:=⟨m - 1,by omega⟩
   have h:i<ss.length:=by omega
   have hs:=hx _ (sAt5_mem h)
   have g:=i_copychain n hn (sAt5 ss i).es hs.1 hs.2
   have hp:=push_st P (sAt5 ss i)
   unfold stC at hp
   rw[f103.l1,lt_dec h,in_dec h,Int.toNat_natCast,okS5 h]
   simp only[br_t,Bool.and_self,gd_t,nS5 h,lS5 h,tS5 h,pS5 h,mS5 h,oS5 h,g,bd_s,push_ok (show P.length<2147483648 by omega),hp]
   rw[push_len (z:=sAt5 ss i),wrap_succ (show i<9223372036854775807 by omega),ih (i+1) m _ (by omega) (by simp;omega) (by omega),st_drop h]
   simp
theorem i_own (n:Nat) (hn:200<n) (cs:List Eff) (ss:List Strp) (hl:cs.length≤100) (hx:∀ e∈cs,e.nums.length≤1000) (hl2:ss.length≤100) (hx2:∀ s∈ss,s.es.length≤100∧∀ e∈s.es,e.nums.length≤1000) :
  f103 (n+3) cs.length (effs cs) ss.length (strps ss)=some (cs.length,effs cs,ss.length,strps ss):=by
 have e0:=i_own0 (n+1) cs.length (effs cs) ss.length (strps ss) 0 [] 0 [] 0 [] cs hl hx cs.length 0 (n+2) [] (by omega) (by simp) (by omega)
 have e0:f103.l0 (n+2) (n+2) cs.length (effs cs) ss.length (strps ss) 0 [] 0 [] 0 [] 0 [] cs.length (effs cs) (cs.length:Int) 0=_:=e0
 have e1:=i_own1 n hn cs.length (effs cs) ss.length (strps ss) 0 [] 0 [] cs.length (effs cs) ss hl2 hx2 ss.length 0 (n+2) [] (by omega) (by simp) (by omega)
 have e1:f103.l1 (n+2) (n+2) cs.length (effs cs) ss.length (strps ss) 0 [] 0 [] cs.length (effs cs) 0 [] ss.length (strps ss) (ss.length:Int) 0=_:=e1
 simp only[List.drop_zero,List.nil_append] at e0 e1
 rw[f103,e0]
 simp only[bd_s,e1]
theorem s_own3 (n:Nat) (xs:List Nat) (h:xs.length≤2147483648):f119 (n+1) xs.length (fls .f32 xs)=some (xs.length,fls .f32 xs):=by
 rw[f119,Nat.zero_add,le_ble h];rfl
theorem s_clip9 (n:Nat) (e:Eff) (h:e.nums.length≤2147483648):f108 (n+2) e.kind e.len e.nums.length (fls .f32 e.nums)=some (e.kind,e.len,e.nums.length,fls .f32 e.nums):=by
 rw[f108,s_own3 n e.nums h];rfl
theorem s_effs9_loop (n:Nat) (cs:List Eff) (hl:cs.length≤100) (hx:∀ e∈cs,e.nums.length≤1000):∀ (j i m:Nat) (P:List Eff),i+j=cs.length→P.length≤i→j<m →
  f149.l0 (n+1) m cs.length (effs cs) P.length (effs P) (cs.length:Int) (i:Int)=some ((P++cs.drop i).length,effs (P++cs.drop i)):=by
 intro j
 induction j with
 | zero =>
   intro i m P hi hP hm
   obtain ⟨m,rfl⟩:∃ k,m=k+1:=⟨m - 1,by omega⟩
   rw[f149.l0,nlt_dec (by omega),List.drop_eq_nil_of_le (by omega),List.append_nil];rfl
 | succ j ih =>
   intro i m P hi hP hm
   obtain ⟨m,rfl⟩:∃ k,m=k+1:=⟨m - 1,by omega⟩
   have h:i<cs.length:=by omega
   have g:=s_own3 n (eAt cs i).nums (by have:=hx _ (eAt_mem h);omega)
   have hp:=push_eff P (eAt cs i)
   unfold effC at hp
   rw[f149.l0,lt_dec h,in_dec h,Int.toNat_natCast,okE h]
   simp only[br_t,Bool.and_self,gd_t,kE h,gE h,nE h,lE h,g,bd_s,push_ok (show P.length<2147483648 by omega),hp]
   rw[push_len (z:=eAt cs i),wrap_succ (show i<9223372036854775807 by omega),ih (i+1) m _ (by omega) (by simp;omega) (by omega),eff_drop h]
   simp
theorem s_effs9 (n:Nat) (hn:200<n) (cs:List Eff) (hl:cs.length≤100) (hx:∀ e∈cs,e.nums.length≤1000):f149 (n+2) cs.length (effs cs)=some (cs.length,effs cs):=by
 have e:=s_effs9_loop n cs hl hx cs.length 0 (n+1) [] (by omega) (by simp) (by omega)
 simp only[List.drop_zero,List.nil_append] at e
 have e:f149.l0 (n+1) (n+1) cs.length (effs cs) 0 (reps 0 [(T.int .i64 (0:Int)),(T.int .i64 (0:Int)),(T.lst 0 [])]) (cs.length:Int) 0=_:=e
 rw[f149,e];rfl
theorem s_own0 (n:Nat) (N3:Nat) (t3:List T) (N5:Nat) (t5:List T) (N7:Nat) (t7:List T) (N11:Nat) (t11:List T) (cs:List Eff) (hl:cs.length≤100) (hx:∀ e∈cs,e.nums.length≤1000):∀ (j i m:Nat) (P:List Eff),i+j=cs.length→P.length≤i→j<m →
  f107.l0 (n+2) m cs.length (effs cs) N3 t3 N5 t5 N7 t7 P.length (effs P) N11 t11 (cs.length:Int) (i:Int)=some (cs.length,effs cs,N3,t3,N5,t5,N7,t7,(P++cs.drop i).length,effs (P++cs.drop i),N11,t11):=by
 intro j
 induction j with
 | zero =>
   intro i m P hi hP hm
   obtain ⟨m,rfl⟩:∃ k,m=k+1:=⟨m - 1,by omega⟩
   rw[f107.l0,nlt_dec (by omega),List.drop_eq_nil_of_le (by omega),List.append_nil];rfl
 | succ j ih =>
   intro i m P hi hP hm
   obtain ⟨m,rfl⟩:∃ k,m=k+1:=⟨m - 1,by omega⟩
   have h:i<cs.length:=by omega
   have g:=s_clip9 n (eAt cs i) (by have:=hx _ (eAt_mem h);omega)
   have hp:=push_eff P (eAt cs i)
   unfold effC at hp
   rw[f107.l0,lt_dec h,in_dec h,Int.toNat_natCast,okE h]
   simp only[br_t,Bool.and_self,gd_t,kE h,gE h,nE h,lE h,g,bd_s,push_ok (show P.length<2147483648 by omega),hp]
   rw[push_len (z:=eAt cs i),wrap_succ (show i<9223372036854775807 by omega),ih (i+1) m _ (by omega) (by simp;omega) (by omega),eff_drop h]
   simp
theorem s_own1 (n:Nat) (hn:200<n) (N1:Nat) (t1:List T) (N5:Nat) (t5:List T) (N7:Nat) (t7:List T) (N9:Nat) (t9:List T) (ss:List Strp) (hl:ss.length≤100) (hx:∀ s∈ss,s.es.length≤100∧∀ e∈s.es,e.nums.length≤1000):∀ (j i m:Nat) (P:List Strp),i+j=ss.length→P.length≤i→j<m →
  f107.l1 (n+2) m N1 t1 ss.length (strps ss) N5 t5 N7 t7 N9 t9 P.length (strps P) (ss.length:Int) (i:Int)=some (N5,t5,N7,t7,N9,t9,(P++ss.drop i).length,strps (P++ss.drop i)):=by
 intro j
 induction j with
 | zero =>
   intro i m P hi hP hm
   obtain ⟨m,rfl⟩:∃ k,m=k+1:=⟨m - 1,by omega⟩
   rw[f107.l1,nlt_dec (by omega),List.drop_eq_nil_of_le (by omega),List.append_nil];rfl
 | succ j ih =>
   intro i m P hi hP hm
   obtain ⟨m,rfl⟩:∃ k,m=k+1:=⟨m - 1,by omega⟩
   have h:i<ss.length:=by omega
   have hs:=hx _ (sAt5_mem h)
   have g:=s_effs9 n hn (sAt5 ss i).es hs.1 hs.2
   have hp:=push_st P (sAt5 ss i)
   unfold stC at hp
   rw[f107.l1,lt_dec h,in_dec h,Int.toNat_natCast,okS5 h]
   simp only[br_t,Bool.and_self,gd_t,nS5 h,lS5 h,tS5 h,pS5 h,mS5 h,oS5 h,g,bd_s,push_ok (show P.length<2147483648 by omega),hp]
   rw[push_len (z:=sAt5 ss i),wrap_succ (show i<9223372036854775807 by omega),ih (i+1) m _ (by omega) (by simp;omega) (by omega),st_drop h]
   simp
theorem s_ownq (n:Nat) (hn:200<n) (cs:List Eff) (ss:List Strp) (hl:cs.length≤100) (hx:∀ e∈cs,e.nums.length≤1000) (hl2:ss.length≤100) (hx2:∀ s∈ss,s.es.length≤100∧∀ e∈s.es,e.nums.length≤1000) :
  f107 (n+3) cs.length (effs cs) ss.length (strps ss)=some (cs.length,effs cs,ss.length,strps ss):=by
 have e0:=s_own0 n ss.length (strps ss) 0 [] 0 [] 0 [] cs hl hx cs.length 0 (n+2) [] (by omega) (by simp) (by omega)
 have e0:f107.l0 (n+2) (n+2) cs.length (effs cs) ss.length (strps ss) 0 [] 0 [] 0 (reps 0 [(T.int .i64 (0:Int)),(T.int .i64 (0:Int)),(T.lst 0 [])]) 0 (reps 0 [(T.lst 0 []),(T.int .i64 (0:Int)),(T.flt .f32 0),(T.bool false),(T.bool false)]) (cs.length:Int) 0=_:=e0
 have e1:=s_own1 n hn cs.length (effs cs) 0 [] 0 [] cs.length (effs cs) ss hl2 hx2 ss.length 0 (n+2) [] (by omega) (by simp) (by omega)
 have e1:f107.l1 (n+2) (n+2) cs.length (effs cs) ss.length (strps ss) 0 [] 0 [] cs.length (effs cs) 0 [] (ss.length:Int) 0=_:=e1
 simp only[List.drop_zero,List.nil_append] at e0 e1
 rw[f107,e0]
 simp only[bd_s,e1]
theorem i_checkedq (n:Nat) (hn:200<n) (C:List Eff) (S:List Strp):f104 (n+7) C.length (effs C) S.length (strps S)=some (if sessB C S=true then .inr (C.length,effs C,S.length,strps S,true,C.length,effs C,S.length,strps S) else .inl (0,[],0,[],false,C.length,effs C,S.length,strps S)):=by
 rw[f104,i_sessB n C S (by omega),bd_s]
 cases sessB C S <;>rfl
theorem szE_few:∀ (a:List Eff),(∀ e∈a,e.nums.length≤256)→szE a≤257 * a.length
 | [],_=>by simp[szE]
 | e::a,h=>by
   have:=szE_few a (fun x hx=>h x (by simp[hx]))
   have:=h e (by simp)
   simp only[szE,List.length_cons];omega
theorem eff_small (e:Ef):e.eff.nums.length≤10:=by cases e <;>simp[Ef.eff]
theorem strips_small {cl:List Eff} {ss:List Strp} (hok:SOk cl ss) (hg:GoodS cl ss):∀ s∈ss,s.es.length≤100∧∀ e∈s.es,e.nums.length≤1000:=by
 intro s hs
 obtain ⟨fs,g1,g2,g3⟩:=strip_efs hok hg hs
 refine ⟨by rw[← g1,effL_length];omega,fun e he => ?_⟩
 rw[← g1] at he
 obtain ⟨f,-,rfl⟩:=List.mem_map.1 he
 have:=eff_small f;omega
structure Trk where
 xs:List Nat
 ten:Int
 pan:Nat
 mute:Bool
 solo:Bool
def trkC (t:Trk):List T:=[.lst t.xs.length (fls .f32 t.xs),.int .i64 t.ten,.flt .f32 t.pan,.bool t.mute,.bool t.solo]
def trks (ts:List Trk):List T:=ts.flatMap trkC
def tAt (ts:List Trk) (i:Nat):Trk:=ts.getD i ⟨[],0,0,false,false⟩
theorem trk_get {c:Nat} (hc:c<5):∀ (ts:List Trk) (i:Nat),i<ts.length→(trks ts)[i * 5+c]?=(trkC (tAt ts i))[c]?
 | [],i,h=>by simp at h
 | t::ts,0,_=>by
   show (trkC t++trks ts)[0 * 5+c]?=_
   rw[List.getElem?_append_left (by simp[trkC];omega),Nat.zero_mul,Nat.zero_add];rfl
 | t::ts,i+1,h=>by
   show (trkC t++trks ts)[(i+1) * 5+c]?=_
   rw[List.getElem?_append_right (by simp[trkC];omega),show (i+1) * 5+c - (trkC t).length=i * 5+c by simp[trkC];omega,trk_get hc ts i (by simpa using h)]
   rfl
section
variable {ts:List Trk} {i:Nat} (h:i<ts.length)
include h
theorem okT:okAt [.lst,.int .i64,.flt .f32,.bool,.bool] (trks ts) (i * 5+0)=true:=by
 have h0:=trk_get (c:=0) (by decide) ts i h
 have h1:=trk_get (c:=1) (by decide) ts i h
 have h2:=trk_get (c:=2) (by decide) ts i h
 have h3:=trk_get (c:=3) (by decide) ts i h
 have h4:=trk_get (c:=4) (by decide) ts i h
 simp only[trkC,List.getElem?_cons_zero,List.getElem?_cons_succ] at h0 h1 h2 h3 h4
 simp[okAt,Nat.add_assoc,h1,h2,h3,h4,isCK]
 rw[show i * 5=i * 5+0 from rfl,h0]
theorem bT:bAt (trks ts) (i * 5+0+1+1+1)=(tAt ts i).mute:=by unfold bAt;rw[show i * 5+0+1+1+1=i * 5+3 from rfl,trk_get (c:=3) (by decide) ts i h];rfl
theorem cT:bAt (trks ts) (i * 5+0+1+1+1+1)=(tAt ts i).solo:=by unfold bAt;rw[show i * 5+0+1+1+1+1=i * 5+4 from rfl,trk_get (c:=4) (by decide) ts i h];rfl
theorem drop_at:ts.drop i=tAt ts i::ts.drop (i+1):=by
 rw[List.drop_eq_getElem_cons h]
 simp[tAt,List.getD,h]
end
theorem push_trk (acc:List Trk) (t:Trk):trks acc++setN (reps 1 [(T.lst 0 []),(T.int .i64 (0:Int)),(T.flt .f32 0),(T.bool false),(T.bool false)]) 0 (trkC t)=trks (acc++[t]):=by
 unfold trks
 rw[List.flatMap_append,List.flatMap_singleton];rfl
def bls (bs:List Bool):List T:=bs.map .bool
theorem push_bls (p:List Bool) (b:Bool):bls p++setN (reps 1 [T.bool false]) 0 [T.bool b]=bls (p++[b]):=by simp[bls,setN,reps]
theorem bAt_bls {bs:List Bool} {i:Nat}:bAt (bls bs) i=bs.getD i false:=by
 unfold bAt bls
 rw[List.getElem?_map]
 cases h:bs[i]? <;>simp[List.getD,h]
theorem okAt_bls {bs:List Bool} {i:Nat} (h:i<bs.length):okAt [.bool] (bls bs) i=true:=by
 unfold bls
 simp[okAt,h,isCK]
def hf (a:Bool) (t:Trk):Bool:=if t.mute then false else if t.solo then true else !a
theorem index_loop (n:Nat) (bs:List Bool) (hl:bs.length≤100):∀ (j i m:Nat),i+j=bs.length→j<m →
  ((bs.drop i).any id=true→∃ k:Nat,f199.l0 n m bs.length (bls bs) true (bs.length:Int) (i:Int)=some (Sum.inl (k:Int)))∧((bs.drop i).any id=false→f199.l0 n m bs.length (bls bs) true (bs.length:Int) (i:Int)=some (Sum.inr ())):=by
 intro j
 induction j with
 | zero =>
   intro i m hi hm
   obtain ⟨m,rfl⟩:∃ k,m=k+1:=⟨m - 1,by omega⟩
   rw[List.drop_eq_nil_of_le (by omega),f199.l0,nlt_dec (by omega)]
   exact ⟨fun h=>by simp at h,fun _=>rfl⟩
 | succ j ih =>
   intro i m hi hm
   obtain ⟨m,rfl⟩:∃ k,m=k+1:=⟨m - 1,by omega⟩
   have h:i<bs.length:=by omega
   have hd:bs.drop i=bs.getD i false::bs.drop (i+1):=by
    rw[List.drop_eq_getElem_cons h];simp[List.getD,h]
   rw[f199.l0,lt_dec h,in_dec h,Int.toNat_natCast,okAt_bls h,bAt_bls,hd,wrap_succ (show i<9223372036854775807 by omega)]
   obtain ⟨i1,i2⟩:=ih (i+1) m (by omega) (by omega)
   cases hb:bs.getD i false
   ·simp only[List.any_cons,id,Bool.false_or]
    exact ⟨fun q=>i1 q,fun q=>i2 q⟩
   ·simp only[List.any_cons,id,Bool.true_or]
    exact ⟨fun _=>⟨i,rfl⟩,fun q=>by cases q⟩
theorem contains_true (n:Nat) (bs:List Bool) (hl:bs.length≤100) (hn:200<n):f187 (n+2) bs.length (bls bs) true=some (bs.any id):=by
 obtain ⟨h1,h2⟩:=index_loop n bs hl bs.length 0 n (by omega) (by omega)
 rw[List.drop_zero] at h1 h2
 rw[f187,f199]
 cases h:bs.any id
 ·have e:=h2 h
  have e:f199.l0 n n bs.length (bls bs) true (bs.length:Int) 0=_:=e
  rw[e];rfl
 ·obtain ⟨k,e⟩:=h1 h
  have e:f199.l0 n n bs.length (bls bs) true (bs.length:Int) 0=_:=e
  rw[e]
  simp only[bd_s,sm_l]
  rw[decide_eq_true (by omega)]
theorem map_at {α:Type} (f:Trk→Bool) {ts:List Trk} {i:Nat} (h:i<ts.length):(ts.map f).getD i false=f (tAt ts i):=by simp[List.getD,tAt,h]
theorem heard_loop (n:Nat) (N:Nat) (a:Bool) (ts:List Trk) (hl:ts.length≤100):∀ (j i m:Nat) (P:List Bool),i+j=ts.length→P.length≤i→j<m →
  f163.l0 n m ts.length (bls (ts.map (·.mute))) ts.length (bls (ts.map (·.solo))) a P.length (bls P) ts.length (bls (ts.map (·.mute))) (ts.length:Int) (i:Int)=some ((P++(ts.drop i).map (hf a)).length,bls (P++(ts.drop i).map (hf a))):=by
 intro j
 induction j with
 | zero =>
   intro i m P hi hP hm
   obtain ⟨m,rfl⟩:∃ k,m=k+1:=⟨m - 1,by omega⟩
   rw[f163.l0,nlt_dec (by omega),List.drop_eq_nil_of_le (by omega)]
   simp[br]
 | succ j ih =>
   intro i m P hi hP hm
   obtain ⟨m,rfl⟩:∃ k,m=k+1:=⟨m - 1,by omega⟩
   have h:i<ts.length:=by omega
   rw[f163.l0,lt_dec h,in_dec h,Int.toNat_natCast,okAt_bls (show i<(ts.map (·.mute)).length by simpa using h),okAt_bls (show i<(ts.map (·.solo)).length by simpa using h),bAt_bls,bAt_bls,map_at (α:=Unit) (·.mute) h,map_at (α:=Unit) (·.solo) h]
   simp only[br_t,Bool.and_self,gd_t,push_ok (show P.length<2147483648 by omega),push_bls,wrap_succ (show i<9223372036854775807 by omega)]
   have key:∀ b,hf a (tAt ts i)=b→f163.l0 n m ts.length (bls (ts.map (·.mute))) ts.length (bls (ts.map (·.solo))) a (P.length+1) (bls (P++[b])) ts.length (bls (ts.map (·.mute))) (ts.length:Int) ((i+1:Nat):Int)=some ((P++(ts.drop i).map (hf a)).length,bls (P++(ts.drop i).map (hf a))):=by
    intro b hb
    rw[push_len (z:=b),ih (i+1) m _ (by omega) (by simp;omega) (by omega),drop_at h,List.map_cons,hb]
    simp
   unfold hf at key
   cases hm':(tAt ts i).mute
   ·cases hs:(tAt ts i).solo
    ·simp only[Bool.not_false,br_t,br_f]
     exact key _ (by simp[hm',hs])
    ·simp only[Bool.not_false,br_t]
     exact key _ (by simp[hm',hs])
   ·simp only[Bool.not_true,br_f]
    exact key _ (by simp[hm'])
def anyS (ts:List Trk):Bool:=ts.any (·.solo)
def hixGo (a:Bool):Nat→List Trk→List Nat
 | _,[]=>[]
 | i,t::ts=>if hf a t then i::hixGo a (i+1) ts else hixGo a (i+1) ts
def ints (ks:List Nat):List Int:=List.map (fun k:Nat=>(k:Int)) ks
theorem hix_facts (a:Bool) (ts:List Trk):∀ (j i:Nat),i+j=ts.length→(hixGo a i (ts.drop i)).map (tAt ts)=(ts.drop i).filter (hf a)∧∀ k∈hixGo a i (ts.drop i),k<ts.length∧(tAt ts k).mute=false:=by
 intro j
 induction j with
 | zero =>
   intro i hi
   rw[List.drop_eq_nil_of_le (by omega)]
   exact ⟨rfl,fun k hk=>by cases hk⟩
 | succ j ih =>
   intro i hi
   have h:i<ts.length:=by omega
   obtain ⟨i1,i2⟩:=ih (i+1) (by omega)
   rw[drop_at h]
   unfold hixGo
   cases hb:hf a (tAt ts i)
   ·simp only[Bool.false_eq_true,if_false]
    rw[List.filter_cons_of_neg (by rw[hb];decide)]
    exact ⟨i1,i2⟩
   ·simp only[if_true]
    rw[List.filter_cons_of_pos hb,List.map_cons,i1]
    refine ⟨rfl,fun k hk => ?_⟩
    rcases List.mem_cons.1 hk with rfl | hk
    ·refine ⟨h,?_⟩
     unfold hf at hb
     cases hm:(tAt ts k).mute
     ·rfl
     ·rw[hm] at hb;simp at hb
    ·exact i2 k hk
theorem or_loop (n:Nat) (ts:List Trk) (hl:ts.length≤100):∀ (j i m:Nat) (b:Bool),i+j=ts.length→j<m →
  f162.l0 n m ts.length (trks ts) b (ts.length:Int) (i:Int)=some (ts.length,trks ts,b||(ts.drop i).any (·.solo)):=by
 intro j
 induction j with
 | zero =>
   intro i m b hi hm
   obtain ⟨m,rfl⟩:∃ k,m=k+1:=⟨m - 1,by omega⟩
   rw[f162.l0,nlt_dec (by omega),List.drop_eq_nil_of_le (by omega)]
   simp[br]
 | succ j ih =>
   intro i m b hi hm
   obtain ⟨m,rfl⟩:∃ k,m=k+1:=⟨m - 1,by omega⟩
   have h:i<ts.length:=by omega
   rw[f162.l0,lt_dec h,in_dec h,Int.toNat_natCast,okT h,cT h,drop_at h,wrap_succ (show i<9223372036854775807 by omega)]
   simp only[br_t,Bool.and_self,gd_t]
   cases b
   ·rw[br_f,ih (i+1) m _ (by omega) (by omega)];simp
   ·rw[br_t,ih (i+1) m _ (by omega) (by omega)];simp
theorem s_hix_loop (n:Nat) (a:Bool) (ts:List Trk) (hl:ts.length≤100):∀ (j i m:Nat) (P:List Nat),i+j=ts.length→P.length≤i→j<m →
  f162.l1 n m ts.length (trks ts) a P.length (its .i64 (ints P)) (ts.length:Int) (i:Int)=some ((P++hixGo a i (ts.drop i)).length,its .i64 (ints (P++hixGo a i (ts.drop i)))):=by
 intro j
 induction j with
 | zero =>
   intro i m P hi hP hm
   obtain ⟨m,rfl⟩:∃ k,m=k+1:=⟨m - 1,by omega⟩
   rw[f162.l1,nlt_dec (by omega),List.drop_eq_nil_of_le (by omega)]
   simp[br,hixGo]
 | succ j ih =>
   intro i m P hi hP hm
   obtain ⟨m,rfl⟩:∃ k,m=k+1:=⟨m - 1,by omega⟩
   have h:i<ts.length:=by omega
   rw[f162.l1,lt_dec h,in_dec h,Int.toNat_natCast,okT h,bT h,cT h,drop_at h]
   simp only[br_t,Bool.and_self,gd_t,push_ok (show P.length<2147483648 by omega),push_its,wrap_succ (show i<9223372036854775807 by omega)]
   have yes:=ih (i+1) m (P++[i]) (by omega) (by simp;omega) (by omega)
   have no:=ih (i+1) m P (by omega) (by omega) (by omega)
   have yes':f162.l1 n m ts.length (trks ts) a (P.length+1) (its .i64 (ints P++[(i:Int)])) (ts.length:Int) ((i+1:Nat):Int)=some ((P++i::hixGo a (i+1) (ts.drop (i+1))).length,its .i64 (ints (P++i::hixGo a (i+1) (ts.drop (i+1))))):=by
    rw[show its .i64 (ints P++[(i:Int)])=its .i64 (ints (P++[i])) by simp[ints],push_len (z:=i),yes]
    simp
   unfold hixGo hf
   cases hm':(tAt ts i).mute
   ·cases hs:(tAt ts i).solo
    ·cases a
     ·simpa [br,hm',hs] using yes'
     ·simpa [br,hm',hs] using no
    ·simpa [br,hm',hs] using yes'
   ·simpa [br,hm'] using no
theorem s_heard_ (n:Nat) (ts:List Trk) (hl:ts.length≤100) (hn:200<n):f162 (n+1) ts.length (trks ts)=some ((hixGo (anyS ts) 0 ts).length,its .i64 (ints (hixGo (anyS ts) 0 ts))):=by
 have e1:=or_loop n ts hl ts.length 0 n false (by omega) (by omega)
 have e2:=s_hix_loop n (anyS ts) ts hl ts.length 0 n [] (by omega) (by simp) (by omega)
 rw[List.drop_zero] at e1 e2
 rw[Bool.false_or] at e1
 have e1:f162.l0 n n ts.length (trks ts) false (ts.length:Int) 0=some (ts.length,trks ts,anyS ts):=e1
 have e2:f162.l1 n n ts.length (trks ts) (anyS ts) 0 (reps 0 [(T.int .i64 (0:Int))]) (ts.length:Int) 0=some ((hixGo (anyS ts) 0 ts).length,its .i64 (ints (hixGo (anyS ts) 0 ts))):=by rw[List.nil_append] at e2;exact e2
 rw[f162,e1]
 simp only[bd_s,e2]
def toTrk (s:Strp):Trk:=⟨[],s.tn,s.pan,s.mute,s.solo⟩
def heardB (ss:List Strp):List Bool:=(ss.map toTrk).map (hf (anyS (ss.map toTrk)))
theorem heardB_length (ss:List Strp):(heardB ss).length=ss.length:=by simp[heardB]
theorem i_sheard_loop (n:Nat) (n1:Nat) (l2:List T) (n3:Nat) (l4:List T) (ss:List Strp) (hl:ss.length≤100):∀ (j i m:Nat) (P Q:List Bool),i+j=ss.length→P.length≤i→Q.length≤i→j<m →
  f127.l0 n m n1 l2 n3 l4 P.length (bls P) Q.length (bls Q) ss.length (strps ss) (ss.length:Int) (i:Int)=some ((P++(ss.drop i).map (·.mute)).length,bls (P++(ss.drop i).map (·.mute)),(Q++(ss.drop i).map (·.solo)).length,bls (Q++(ss.drop i).map (·.solo))):=by
 intro j
 induction j with
 | zero =>
   intro i m P Q hi hP hQ hm
   obtain ⟨m,rfl⟩:∃ k,m=k+1:=⟨m - 1,by omega⟩
   rw[f127.l0,nlt_dec (by omega),List.drop_eq_nil_of_le (by omega)]
   simp[br]
 | succ j ih =>
   intro i m P Q hi hP hQ hm
   obtain ⟨m,rfl⟩:∃ k,m=k+1:=⟨m - 1,by omega⟩
   have h:i<ss.length:=by omega
   rw[f127.l0,lt_dec h,in_dec h,Int.toNat_natCast,okS5 h]
   simp only[br_t,Bool.and_self,gd_t,mS5 h,oS5 h,push_ok (show P.length<2147483648 by omega),push_ok (show Q.length<2147483648 by omega),push_bls,wrap_succ (show i<9223372036854775807 by omega)]
   rw[push_len (z:=(sAt5 ss i).mute),push_len (p:=Q) (z:=(sAt5 ss i).solo),ih (i+1) m _ _ (by omega) (by simp;omega) (by simp;omega) (by omega),st_drop h]
   simp
theorem i_sheard (n:Nat) (N:Nat) (cs:List T) (ss:List Strp) (hl:ss.length≤100) (hn:300<n):f127 (n+4) N cs ss.length (strps ss)=some (ss.length,bls (heardB ss)):=by
 have e:=i_sheard_loop (n+3) N cs ss.length (strps ss) ss hl ss.length 0 (n+3) [] [] (by omega) (by simp) (by simp) (by omega)
 simp only[List.drop_zero,List.nil_append] at e
 have m1:ss.map (·.mute)=(ss.map toTrk).map (·.mute):=by rw[List.map_map];rfl
 have m2:ss.map (·.solo)=(ss.map toTrk).map (·.solo):=by rw[List.map_map];rfl
 rw[m1,m2] at e
 have e:f127.l0 (n+3) (n+3) N cs ss.length (strps ss) 0 [] 0 [] ss.length (strps ss) (ss.length:Int) 0=_:=e
 rw[f127,e]
 have htl:(ss.map toTrk).length=ss.length:=by simp
 obtain ⟨ts,hts⟩:∃ ts,ts=ss.map toTrk:=⟨_,rfl⟩
 unfold heardB
 rw[← hts] at htl ⊢
 have e2:=contains_true n (ts.map (·.solo)) (by rw[List.length_map];omega) (by omega)
 have ha:(ts.map (·.solo)).any id=anyS ts:=by unfold anyS;rw[List.any_map];rfl
 rw[ha,List.length_map] at e2
 have e3:=heard_loop (n+2) ts.length (anyS ts) ts (by omega) ts.length 0 (n+2) [] (by omega) (by simp) (by omega)
 simp only[List.drop_zero,List.nil_append] at e3
 have e3:f163.l0 (n+2) (n+2) ts.length (bls (ts.map (·.mute))) ts.length (bls (ts.map (·.solo))) (anyS ts) 0 [] ts.length (bls (ts.map (·.mute))) (ts.length:Int) 0=_:=e3
 rw[htl] at e2 e3
 simp only[bd_s,List.length_map]
 rw[f163]
 simp only[e2,bd_s,e3,List.length_map,htl]
theorem s_sheard_loop (n:Nat) (n1:Nat) (l2:List T) (ss:List Strp) (hl:ss.length≤100):∀ (j i m:Nat) (P:List Trk),i+j=ss.length→P.length≤i→j<m →
  f121.l0 (n+1) m n1 l2 ss.length (strps ss) P.length (trks P) (ss.length:Int) (i:Int)=some ((P++(ss.drop i).map toTrk).length,trks (P++(ss.drop i).map toTrk)):=by
 intro j
 induction j with
 | zero =>
   intro i m P hi hP hm
   obtain ⟨m,rfl⟩:∃ k,m=k+1:=⟨m - 1,by omega⟩
   rw[f121.l0,nlt_dec (by omega),List.drop_eq_nil_of_le (by omega)]
   simp[br]
 | succ j ih =>
   intro i m P hi hP hm
   obtain ⟨m,rfl⟩:∃ k,m=k+1:=⟨m - 1,by omega⟩
   have h:i<ss.length:=by omega
   obtain ⟨x,y,e⟩:=s_strip1 n (sAt5 ss i).es.length (effs (sAt5 ss i).es) (sAt5 ss i).tn (sAt5 ss i).pan (sAt5 ss i).mute (sAt5 ss i).solo 0 (reps 0 [(T.flt .f32 0)])
   have hp:=push_trk P (toTrk (sAt5 ss i))
   have hp:trks P++setN (reps 1 [(T.lst 0 []),(T.int .i64 (0:Int)),(T.flt .f32 0),(T.bool false),(T.bool false)]) 0 [.lst 0 (reps 0 [(T.flt .f32 0)]),.int .i64 (sAt5 ss i).tn,.flt .f32 (sAt5 ss i).pan,.bool (sAt5 ss i).mute,.bool (sAt5 ss i).solo]=_:=hp
   rw[f121.l0,lt_dec h,in_dec h,Int.toNat_natCast,okS5 h,nS5 h,lS5 h,tS5 h,pS5 h,mS5 h,oS5 h,e]
   simp only[br_t,Bool.and_self,gd_t,bd_s,push_ok (show P.length<2147483648 by omega),hp,wrap_succ (show i<9223372036854775807 by omega)]
   rw[push_len (z:=toTrk (sAt5 ss i)),ih (i+1) m _ (by omega) (by simp;omega) (by omega),st_drop h]
   simp
def heardI (ss:List Strp):List Nat:=hixGo (anyS (ss.map toTrk)) 0 (ss.map toTrk)
theorem s_sheard (n:Nat) (N:Nat) (cs:List T) (ss:List Strp) (hl:ss.length≤100) (hn:300<n):f121 (n+2) N cs ss.length (strps ss)=some ((ints (heardI ss)).length,its .i64 (ints (heardI ss))):=by
 have e:=s_sheard_loop n N cs ss hl ss.length 0 (n+1) [] (by omega) (by simp) (by omega)
 simp only[List.drop_zero,List.nil_append] at e
 have e:f121.l0 (n+1) (n+1) N cs ss.length (strps ss) 0 (reps 0 [(T.lst 0 []),(T.int .i64 (0:Int)),(T.flt .f32 0),(T.bool false),(T.bool false)]) (ss.length:Int) 0=_:=e
 have e2:=s_heard_ n (ss.map toTrk) (by simpa using hl) (by omega)
 rw[f121,e]
 simp only[bd_s,e2]
 simp[heardI,ints]
theorem hix_mem (a:Bool) (ts:List Trk):∀ (j i k:Nat),i+j=ts.length→(k∈hixGo a i (ts.drop i)↔(i≤k∧k<ts.length∧hf a (tAt ts k)=true)):=by
 intro j
 induction j with
 | zero =>
   intro i k hi
   rw[List.drop_eq_nil_of_le (by omega)]
   simp[hixGo];omega
 | succ j ih =>
   intro i k hi
   have h:i<ts.length:=by omega
   rw[drop_at h]
   unfold hixGo
   have hi1:=ih (i+1) k (by omega)
   by_cases hik:i=k
   ·subst hik
    cases hb:hf a (tAt ts i)
    ·rw[if_neg (by simp),hi1]
     constructor
     ·rintro ⟨h1,-⟩;omega
     ·rintro ⟨-,-,h3⟩;simp at h3
    ·rw[if_pos rfl]
     simp[h]
   ·cases hb:hf a (tAt ts i)
    ·rw[if_neg (by simp),hi1]
     constructor
     ·rintro ⟨h1,h2,h3⟩;exact ⟨by omega,h2,h3⟩
     ·rintro ⟨h1,h2,h3⟩;exact ⟨by omega,h2,h3⟩
    ·rw[if_pos rfl,List.mem_cons,hi1]
     constructor
     ·rintro (h0 | ⟨h1,h2,h3⟩)
      ·exact absurd h0.symm hik
      ·exact ⟨by omega,h2,h3⟩
     ·rintro ⟨h1,h2,h3⟩;exact .inr ⟨by omega,h2,h3⟩
theorem heard_mem {ss:List Strp} {k:Nat} (hk:k<ss.length):decide (k∈heardI ss)=(heardB ss).getD k false:=by
 have h:=hix_mem (anyS (ss.map toTrk)) (ss.map toTrk) (ss.map toTrk).length 0 k (by omega)
 rw[List.drop_zero] at h
 have hkt:k<(ss.map toTrk).length:=by simpa using hk
 unfold heardB heardI
 rw[map_at (α:=Unit) _ hkt,Bool.eq_iff_iff,decide_eq_true_iff,h]
 simp[hk]
theorem s_has_loop (n:Nat) (x:Int):∀ (zs p:List Int) (m:Nat),p.length+zs.length<1048576→zs.length<m →
  f122.l0 n m (p++zs).length (its .i64 (p++zs)) x (p.length:Int)=some (if x∈zs then .inl true else .inr ()):=by
 intro zs
 induction zs with
 | nil =>
   intro p m _ hm
   obtain ⟨m,rfl⟩:∃ k,m=k+1:=⟨m - 1,by omega⟩
   rw[f122.l0,lt_end];rfl
 | cons z zs ih =>
   intro p m hp hm
   obtain ⟨m,rfl⟩:∃ k,m=k+1:=⟨m - 1,by omega⟩
   rw[f122.l0,lt_mid,in_mid,toNat_len,okAt_midI,iAt_mid]
   have:=ih (p++[z]) m (by simp at hp ⊢;omega) (by simp at hm;omega)
   simp only[br_t,gd_t,Bool.and_self,wrap_len (z:=z) (show p.length<4611686018427387904 by simp at hp;omega)]
   by_cases h:z=x
   ·subst h;simp[br_t]
   ·rw[show (z==x)=false by simp[h],br_f]
    have e:(x∈z::zs)↔x∈zs:=by simp[Ne.symm h]
    simp only[e]
    simpa using this
theorem s_has (n:Nat) (ks:List Int) (x:Int) (hl:ks.length<1048576) (hn:ks.length<n):f122 (n+1) ks.length (its .i64 ks) x=some (decide (x∈ks)):=by
 have e:=s_has_loop n x ks [] n (by simpa using hl) hn
 have e:f122.l0 n n ks.length (its .i64 ks) x 0=_:=e
 rw[f122,e]
 by_cases h:x∈ks <;>simp[h,bd,sm]
theorem ints_mem {k:Nat} {L:List Nat}:((k:Int)∈ints L)↔k∈L:=by
 unfold ints
 rw[List.mem_map]
 constructor
 ·rintro ⟨a,h,e⟩
  have:a=k:=by omega
  exact this ▸ h
 ·intro h;exact ⟨k,h,rfl⟩
def unitE (e:Eff):Bool:=e.kind==0&&feq .f32 (e.nums.getD 0 0) 1065353216
def keepE (es:List Eff):List Eff:=es.filter fun e => !unitE e
theorem keepE_mem {es:List Eff} {e:Eff} (h:e∈keepE es):e∈es:=(List.mem_filter.1 h).1
theorem keepE_length (es:List Eff):(keepE es).length≤es.length:=List.length_filter_le _ _
theorem effB_gain {e:Eff} (h:effB e=true) (hk:e.kind=0):e.nums.length=1:=by
 unfold effB at h
 rw[if_pos (.inl hk),decide_eq_true_iff] at h
 exact h.2
theorem keep_un:∀ es:List Eff,(∀ e∈es,effB e=true)→keepRows 3 (prUnit []) es.length (effs es)=some ((keepE es).length,effs (keepE es))
 | [],_=>rfl
 | e::es,h=>by
   have ih:=keep_un es fun x hx=>h x (by simp[hx])
   have h1:(effC e++effs es).take 3=effC e:=rfl
   have h2:(effC e++effs es).drop 3=effs es:=rfl
   have h3:prUnit [] (effC e)=some (unitE e):=by
    have he:=effB_gain (h e (by simp))
    unfold prUnit effC unitE
    simp only
    cases hk:e.kind==0
    ·rfl
    ·have hl:=he (by simpa using hk)
     cases hn:e.nums with
     | nil=>rw[hn] at hl;simp at hl
     | cons x xs=>simp[fls,feq]
   show keepRows 3 _ (es.length+1) (effC e++effs es)=_
   simp only[keepRows,h1,h2,h3,ih]
   cases hu:unitE e
   ·have:keepE (e::es)=e::keepE es:=List.filter_cons_of_pos (by simp[hu])
    rw[this];rfl
   ·have:keepE (e::es)=keepE es:=List.filter_cons_of_neg (by simp[hu])
    rw[this]
def spanGo (k:Int):List Eff→Int→Int→Int × Int
 | [],f,t=>(f,t)
 | c::cs,f,t=>if c.kind=k then spanGo k cs (if f<0∨c.len<f then c.len else f) (if t<c.len+(c.nums.length:Int) then c.len+(c.nums.length:Int) else t) else spanGo k cs f t
def SpanOk (f t:Int):Prop:=(f = -1∧t=0)∨(0≤f∧f≤256∧f≤t∧t≤1000)
theorem span_ok (k:Int):∀ (cs:List Eff) (f t:Int),(∀ c∈cs,(0≤c.len∧c.len≤256)∧c.nums.length≤256)→SpanOk f t→SpanOk (spanGo k cs f t).1 (spanGo k cs f t).2
 | [],f,t,_,h=>h
 | c::cs,f,t,hc,h=>by
   obtain ⟨⟨h1,h2⟩,h3⟩:=hc c (by simp)
   unfold spanGo
   by_cases hk:c.kind=k
   ·rw[if_pos hk]
    refine span_ok k cs _ _ (fun x hx=>hc x (by simp[hx])) ?_
    unfold SpanOk at h ⊢
    right
    rcases h with ⟨rfl,rfl⟩ | ⟨a,b,d,e⟩
    ·rw[if_pos (.inl (by decide))]
     split <;>omega
    ·by_cases hf:f<0∨c.len<f
     ·rw[if_pos hf];split <;>omega
     ·rw[if_neg hf];split <;>omega
   ·rw[if_neg hk]
    exact span_ok k cs f t (fun x hx=>hc x (by simp[hx])) h
theorem addAt_drop (p:Int) (x:Nat) (out:List Nat) (f:Nat) (hf:f≤out.length):(addAt p x out).drop f=addAt (p - (f:Int)) x (out.drop f):=by
 unfold addAt
 by_cases h:0≤p∧p<(out.length:Int)
 ·rw[if_pos h]
  by_cases h2:(f:Int)≤p
  ·rw[if_pos (by rw[List.length_drop];omega),List.drop_set,if_neg (by omega)]
   have e:(p - (f:Int)).toNat=p.toNat - f:=by omega
   rw[e]
   congr 2
   simp only[List.getD,List.getElem?_drop]
   rw[show f+(p.toNat - f)=p.toNat by omega]
  ·rw[if_neg (by omega),List.drop_set,if_pos (by omega)]
 ·rw[if_neg h,if_neg (by rw[List.length_drop];omega)]
theorem addClip_drop (f:Nat):∀ (xs:List Nat) (p:Int) (out:List Nat),f≤out.length→(addClip p xs out).drop f=addClip (p - (f:Int)) xs (out.drop f)
 | [],_,_,_=>rfl
 | x::xs,p,out,hf=>by
   rw[addClip,addClip,addClip_drop f xs _ _ (by rw[addAt_length];exact hf),addAt_drop _ _ _ _ hf]
   congr 1
   omega
theorem trackGo_drop (track:Int) (f:Nat):∀ (cs:List Eff) (out:List Nat),f≤out.length→(trackGo track 0 cs out).drop f=trackGo track (f:Int) cs (out.drop f)
 | [],_,_=>rfl
 | c::cs,out,hf=>by
   rw[trackGo,trackGo,trackGo_drop track f cs _ (by split <;>simp[addClip_length,hf])]
   congr 1
   split
   ·rw[addClip_drop f _ _ _ hf]
    congr 1
    omega
   ·rfl
def stW (s:Strp) (es:List Eff):Strp:=⟨es,s.tn,s.pan,s.mute,s.solo⟩
theorem st_es {ss:List Strp} {i:Nat} (h:i<ss.length) (es:List Eff):setN (strps ss) (i * 5+0) [T.lst es.length (effs es)]=strps (ss.set i (stW (sAt5 ss i) es)):=by
 rw[setN_one]
 exact rows_set stC_length ⟨[],0,0,false,false⟩ ss i 0 (T.lst es.length (effs es)) (stW (sAt5 ss i) es) h (by decide) rfl
theorem st_nil (cs:List T) (p:Nat) (t u:T):setN (setN cs p [t]) p [u]=setN cs p [u]:=by
 rw[setN_one,setN_one,setN_one,List.set_set]
def compC (H:List Bool) (cl:List Eff) (k:Nat):List Eff :=
 if H.getD k false then (if (spanGo (k:Int) cl (-1) 0).1<0 then [] else
  [⟨(k:Int),(spanGo (k:Int) cl (-1) 0).1,trackGo (k:Int) (spanGo (k:Int) cl (-1) 0).1 cl (List.replicate (min 256 ((spanGo (k:Int) cl (-1) 0).2 - (spanGo (k:Int) cl (-1) 0).1)).toNat 0)⟩]) else []
def compS (H:List Bool) (k:Nat) (s:Strp):Strp:=stW s (if H.getD k false then keepE s.es else [])
def cmpGo (H:List Bool) (cl:List Eff):Nat→Nat→List Strp→List Eff→List Strp × List Eff
 | 0,_,S,P=>(S,P)
 | j+1,i,S,P=>cmpGo H cl j (i+1) (S.set i (compS H i (sAt5 S i))) (P++compC H cl i)
theorem s_max (n:Nat) (a b:Int):f123 (n+1) a b=some (if a<b then b else a):=by
 rw[f123]
 by_cases h:a<b
 ·rw[if_pos h,decide_eq_false (by omega)];rfl
 ·rw[if_neg h]
  by_cases h2:a>b
  ·rw[decide_eq_true h2];rfl
  ·rw[decide_eq_false h2,br_f];congr 1;omega
theorem s_min (n:Nat) (a b:Int):f125 (n+1) a b=some (if a<b then a else b):=by
 rw[f125]
 by_cases h:a<b
 ·rw[if_pos h,decide_eq_true h];rfl
 ·rw[if_neg h,decide_eq_false h];rfl
theorem s_end (n:Nat) (c:Eff) (h:(0≤c.len∧c.len≤256)∧c.nums.length≤256):f124 (n+1) c.kind c.len c.nums.length (fls .f32 c.nums)=some (c.len+(c.nums.length:Int)):=by
 rw[f124]
 congr 1
 rw[wrap64] <;>omega
theorem i_cend (n:Nat) (c:Eff) (h:(0≤c.len∧c.len≤256)∧c.nums.length≤256):f102 (n+2) c.kind c.len c.nums.length (fls .f32 c.nums)=some (c.len+(c.nums.length:Int)):=by
 rw[f102,i_sized]
 simp only[bd_s]
 congr 1
 rw[wrap64] <;>omega
theorem span_cons (k:Int) (c:Eff) (cs:List Eff) (f t:Int):spanGo k (c::cs) f t=if c.kind=k then spanGo k cs (if f<0∨c.len<f then c.len else f) (if t<c.len+(c.nums.length:Int) then c.len+(c.nums.length:Int) else t) else spanGo k cs f t:=rfl
def ClOk (cl:List Eff):Prop:=∀ c∈cl,(0≤c.len∧c.len≤256)∧c.nums.length≤256
theorem s_span (n:Nat) (cl:List Eff) (hl:cl.length≤100) (hcl:ClOk cl) (n3:Nat) (l4:List T) (n5:Nat) (l6:List T) (n7:Nat) (l8:List T) (n9:Nat) (l10:List T) (n11:Nat) (l12:List T) (n13:Nat) (l14:List T) (k:Nat) (i18 i19:Int):∀ (j i m:Nat) (f t:Int),i+j=cl.length→j<m →
  f62.l2 (n+1) m cl.length (effs cl) n3 l4 n5 l6 n7 l8 n9 l10 n11 l12 n13 l14 (k:Int) f t i18 i19 (cl.length:Int) (i:Int) =
   some (cl.length,effs cl,n3,l4,n5,l6,n7,l8,n9,l10,n11,l12,n13,l14,(k:Int),(spanGo (k:Int) (cl.drop i) f t).1,(spanGo (k:Int) (cl.drop i) f t).2,i18,i19):=by
 intro j
 induction j with
 | zero =>
   intro i m f t hi hm
   obtain ⟨m,rfl⟩:∃ k,m=k+1:=⟨m - 1,by omega⟩
   rw[f62.l2,nlt_dec (by omega),List.drop_eq_nil_of_le (by omega)];rfl
 | succ j ih =>
   intro i m f t hi hm
   obtain ⟨m,rfl⟩:∃ k,m=k+1:=⟨m - 1,by omega⟩
   have h:i<cl.length:=by omega
   have e:=s_end n (eAt cl i) (hcl _ (eAt_mem h))
   rw[f62.l2,lt_dec h,in_dec h,Int.toNat_natCast,okE h,kE h,gE h,nE h,lE h,e,eff_drop h]
   simp only[br_t,Bool.and_self,gd_t,bd_s,s_max,wrap_succ (show i<9223372036854775807 by omega),ih _ _ _ _ (show i+1+j=cl.length by omega) (show j<m by omega)]
   rw[span_cons]
   by_cases hk:(eAt cl i).kind=(k:Int)
   ·rw[show ((eAt cl i).kind != (k:Int))=false by simp[hk],br_f,if_pos hk]
    by_cases h1:f<0
    ·rw[decide_eq_true h1,br_t,if_pos (show f<0∨(eAt cl i).len<f from .inl h1)]
    ·rw[decide_eq_false h1,br_f]
     by_cases h2:(eAt cl i).len<f
     ·rw[decide_eq_true h2,br_t,if_pos (show f<0∨(eAt cl i).len<f from .inr h2)]
     ·rw[decide_eq_false h2,br_f,if_neg (show ¬ (f<0∨(eAt cl i).len<f) by omega)]
   ·rw[show ((eAt cl i).kind != (k:Int))=true by simp[hk],br_t,if_neg hk]
theorem i_span (n:Nat) (cl:List Eff) (hl:cl.length≤100) (hcl:ClOk cl) (n1:Nat) (l2:List T) (n3:Nat) (l4:List T) (n5:Nat) (l6:List T) (n7:Nat) (l8:List T) (n9:Nat) (l10:List T) (n11:Nat) (l12:List T) (k:Nat) (n16:Nat) (l17:List T) (i18 i19:Int):∀ (j i m:Nat) (f t:Int),i+j=cl.length→j<m →
  f63.l1 (n+2) m n1 l2 n3 l4 n5 l6 n7 l8 n9 l10 n11 l12 (k:Int) f t n16 l17 i18 i19 cl.length (effs cl) (cl.length:Int) (i:Int) =
   some (n1,l2,n3,l4,n5,l6,n7,l8,n9,l10,n11,l12,(k:Int),(spanGo (k:Int) (cl.drop i) f t).1,(spanGo (k:Int) (cl.drop i) f t).2,n16,l17,i18,i19):=by
 intro j
 induction j with
 | zero =>
   intro i m f t hi hm
   obtain ⟨m,rfl⟩:∃ k,m=k+1:=⟨m - 1,by omega⟩
   rw[f63.l1,nlt_dec (by omega),List.drop_eq_nil_of_le (by omega)];rfl
 | succ j ih =>
   intro i m f t hi hm
   obtain ⟨m,rfl⟩:∃ k,m=k+1:=⟨m - 1,by omega⟩
   have h:i<cl.length:=by omega
   have e:=i_cend n (eAt cl i) (hcl _ (eAt_mem h))
   rw[f63.l1,lt_dec h,in_dec h,Int.toNat_natCast,okE h,kE h,gE h,nE h,lE h,eff_drop h]
   simp only[br_t,Bool.and_self,gd_t,e,bd_s,gt_iff_lt,wrap_succ (show i<9223372036854775807 by omega),ih _ _ _ _ (show i+1+j=cl.length by omega) (show j<m by omega)]
   rw[span_cons]
   by_cases hk:(eAt cl i).kind=(k:Int)
   ·rw[show ((eAt cl i).kind != (k:Int))=false by simp[hk],br_f,if_pos hk]
    by_cases h1:f<0
    ·rw[decide_eq_true h1,br_t,if_pos (show f<0∨(eAt cl i).len<f from .inl h1)]
    ·rw[decide_eq_false h1,br_f]
     by_cases h2:(eAt cl i).len<f
     ·rw[decide_eq_true h2,br_t,if_pos (show f<0∨(eAt cl i).len<f from .inr h2)]
     ·rw[decide_eq_false h2,br_f,if_neg (show ¬ (f<0∨(eAt cl i).len<f) by omega)]
   ·rw[show ((eAt cl i).kind != (k:Int))=true by simp[hk],br_t,if_neg hk]
def Sfx (es:List Eff) (i:Nat) (l:List T):Prop:=∀ j c,i≤j→j<es.length→c<3→l[j * 3+c]?=(effC (eAt es j))[c]?
theorem sfx_whole (es:List Eff):Sfx es 0 (effs es):=fun j c _ hj hc=>eff_get hc es j hj
theorem Sfx.next {es:List Eff} {i:Nat} {l:List T} (h:Sfx es i l):Sfx es (i+1) l:=fun j c hi=>h j c (by omega)
theorem Sfx.hole {es:List Eff} {i:Nat} {l:List T} (h:Sfx es i l) (a b c:T):Sfx es (i+1) (setN l (i * 3+0) [a,b,c]):=by
 intro j d hi hj hd
 show (((l.set (i * 3+0) a).set (i * 3+0+1) b).set (i * 3+0+1+1) c)[j * 3+d]?=_
 rw[List.getElem?_set_ne (by omega),List.getElem?_set_ne (by omega),List.getElem?_set_ne (by omega)]
 exact h j d (by omega) hj hd
section
variable {es:List Eff} {i:Nat} {l:List T} (h:Sfx es i l) (hi:i<es.length)
include h hi
theorem okX:okAt [.int .i64,.int .i64,.lst] l (i * 3+0)=true:=by
 have h0:=h i 0 (Nat.le_refl _) hi (by decide)
 have h1:=h i 1 (Nat.le_refl _) hi (by decide)
 have h2:=h i 2 (Nat.le_refl _) hi (by decide)
 simp only[effC,List.getElem?_cons_zero,List.getElem?_cons_succ] at h0 h1 h2
 rw[Nat.add_zero] at h0
 simp[okAt,Nat.add_assoc,h0,h1,h2,isCK]
theorem okX0:okAt [.int .i64] l (i * 3+0)=true:=by
 have h0:=h i 0 (Nat.le_refl _) hi (by decide)
 simp only[effC,List.getElem?_cons_zero] at h0
 rw[Nat.add_zero] at h0
 simp[okAt,h0,isCK]
theorem okX2:okAt [.lst] l (i * 3+2)=true:=by
 have h2:=h i 2 (Nat.le_refl _) hi (by decide)
 simp only[effC,List.getElem?_cons_zero,List.getElem?_cons_succ] at h2
 simp[okAt,h2,isCK]
theorem kX:iAt l (i * 3+0)=(eAt es i).kind:=by unfold iAt;rw[h i 0 (Nat.le_refl _) hi (by decide)];rfl
theorem gX:iAt l (i * 3+0+1)=(eAt es i).len:=by unfold iAt;rw[show i * 3+0+1=i * 3+1 from rfl,h i 1 (Nat.le_refl _) hi (by decide)];rfl
theorem nX:nAt l (i * 3+2)=(eAt es i).nums.length:=by unfold nAt;rw[h i 2 (Nat.le_refl _) hi (by decide)];rfl
theorem lX:lAt l (i * 3+2)=fls .f32 (eAt es i).nums:=by unfold lAt;rw[h i 2 (Nat.le_refl _) hi (by decide)];rfl
theorem nX':nAt l (i * 3+0+1+1)=(eAt es i).nums.length:=nX h hi
theorem lX':lAt l (i * 3+0+1+1)=fls .f32 (eAt es i).nums:=lX h hi
end
theorem okS50 {ts:List Strp} {i:Nat} (h:i<ts.length):okAt [.lst] (strps ts) (i * 5+0)=true:=by
 have h0:=st_get (c:=0) (by decide) ts i h
 simp only[stC,List.getElem?_cons_zero] at h0
 rw[Nat.add_zero] at h0
 simp[okAt,h0,isCK]
theorem sAt5_set {ts:List Strp} {i:Nat} (h:i<ts.length) (y:Strp):sAt5 (ts.set i y) i=y:=by simp[sAt5,List.getD,h]
theorem keepE_drop {es:List Eff} {i:Nat} (h:i<es.length):keepE (es.drop i)=if unitE (eAt es i) then keepE (es.drop (i+1)) else eAt es i::keepE (es.drop (i+1)):=by
 rw[eff_drop h]
 unfold keepE
 cases hu:unitE (eAt es i)
 ·rw[List.filter_cons_of_pos (by simp[hu])];rfl
 ·rw[List.filter_cons_of_neg (by simp[hu])];rfl
theorem s_keep (n:Nat) (n1:Nat) (l2:List T) (n3:Nat) (l4:List T) (n5:Nat) (l6:List T) (n7:Nat) (l8:List T) (n9:Nat) (l10:List T) (n13:Nat) (l14:List T) (i18 i19:Int) (S:List Strp) (k:Nat) (hk:k<S.length) (x:Strp) (es:List Eff) (he:∀ e∈es,effB e=true) (hl:es.length≤100):∀ (j i m:Nat) (acc:List Eff) (l17:List T),i+j=es.length→acc.length≤i→Sfx es i l17→j<m →
  f62.l1 n m n1 l2 n3 l4 n5 l6 n7 l8 n9 l10 S.length (strps (S.set k (stW x acc))) n13 l14 (k:Int) es.length l17 i18 i19 (es.length:Int) (i:Int) =
   some (n1,l2,n3,l4,n5,l6,n7,l8,n9,l10,S.length,strps (S.set k (stW x (acc++keepE (es.drop i)))),n13,l14,(k:Int),i18,i19):=by
 intro j
 induction j with
 | zero =>
   intro i m acc l17 hi ha hX hm
   obtain ⟨m,rfl⟩:∃ k,m=k+1:=⟨m - 1,by omega⟩
   rw[f62.l1,nlt_dec (by omega),List.drop_eq_nil_of_le (by omega),br_f]
   simp[keepE]
 | succ j ih =>
   intro i m acc l17 hi ha hX hm
   obtain ⟨m,rfl⟩:∃ k,m=k+1:=⟨m - 1,by omega⟩
   have h:i<es.length:=by omega
   obtain ⟨S',hS⟩:∃ S',S'=S.set k (stW x acc):=⟨_,rfl⟩
   have hk':k<S'.length:=by rw[hS,List.length_set];exact hk
   have hy:sAt5 S' k=stW x acc:=by rw[hS];exact sAt5_set hk _
   have hb:Nat.ble (k * 5+0+1) (setN (strps S') (k * 5+0) [T.nil]).length=true:=by
    rw[setN_one,List.length_set,strps_length];apply le_ble;omega
   have hp:=push_eff acc (eAt es i)
   unfold effC at hp
   have hset:setN (strps S') (k * 5+0) [T.lst (acc.length+1) (effs (acc++[eAt es i]))]=strps (S.set k (stW x (acc++[eAt es i]))):=by
    have:=st_es hk' (acc++[eAt es i])
    rw[hy,hS,List.set_set] at this
    rw[hS,push_len (z:=eAt es i)]
    exact this
   have hesl:(stW x acc).es=acc:=rfl
   have yes:=ih (i+1) m (acc++[eAt es i]) _ (by omega) (by simp;omega) (hX.hole (.int .i64 (eAt es i).kind) (.int .i64 (eAt es i).len) .nil) (by omega)
   have no:=ih (i+1) m acc _ (by omega) (by omega) hX.next (by omega)
   rw[List.append_assoc,List.singleton_append] at yes
   rw[f62.l1,lt_dec h,in_dec h,in_dec hk,← hS]
   simp only[Int.toNat_natCast,okX0 hX h,okX2 hX h,okX hX h,kX hX h,gX hX h,nX hX h,lX hX h,nX' hX h,lX' hX h,okS50 hk',nS5 hk',lS5 hk',hy,hesl,br_t,gd_t,Bool.and_self,Bool.and_true,hb,le_ble (show acc.length+1≤2147483648 by omega),st_nil,hp,hset,wrap_succ (show i<9223372036854775807 by omega),yes]
   rw[keepE_drop h]
   by_cases hz:(eAt es i).kind=0
   ·have h1:=effB_gain (he _ (eAt_mem h)) hz
    have h2:okAt [.flt .f32] (fls .f32 (eAt es i).nums) 0=true:=okAt_fls (by omega)
    have h3:decide ((0:Int)≤0∧(0:Int)<(((eAt es i).nums.length:Nat):Int))=true:=by rw[h1];rfl
    rw[show ((eAt es i).kind != 0)=false by simp[hz],br_f,h3,h2]
    simp only[gd_t,fAt_fls]
    have hu:unitE (eAt es i)=feq .f32 ((eAt es i).nums.getD 0 0) 1065353216:=by
     unfold unitE;rw[show ((eAt es i).kind==0)=true by simp[hz],Bool.true_and]
    rw[hu,fne_feq]
    cases feq .f32 ((eAt es i).nums.getD 0 0) 1065353216
    ·rw[Bool.not_false,br_t];rfl
    ·rw[Bool.not_true,br_f,hS,no];rfl
   ·have hu:unitE (eAt es i)=false:=by unfold unitE;rw[show ((eAt es i).kind==0)=false by simp[hz],Bool.false_and]
    rw[show ((eAt es i).kind != 0)=true by simp[hz],br_t,hu]
    rfl
theorem take_whole {α:Type} (l:List α) (f n:Nat) (h:l.length=n):(l.drop f).take (n - f)=l.drop f:=List.take_of_length_le (by rw[List.length_drop];omega)
def StOk (S:List Strp):Prop:=∀ s∈S,s.es.length≤100∧∀ e∈s.es,effB e=true
theorem StOk.set {S:List Strp} (h:StOk S) (H:List Bool) {i:Nat} (hi:i<S.length):StOk (S.set i (compS H i (sAt5 S i))):=by
 intro s hs
 rcases List.mem_or_eq_of_mem_set hs with hs | rfl
 ·exact h s hs
 ·obtain ⟨h1,h2⟩:=h _ (sAt5_mem hi)
  show (if H.getD i false then keepE (sAt5 S i).es else []).length≤100∧∀ e∈(if H.getD i false then keepE (sAt5 S i).es else []),effB e=true
  split
  ·exact ⟨Nat.le_trans (keepE_length _) h1,fun e he=>h2 e (keepE_mem he)⟩
  ·exact ⟨by simp,fun e he=>by simp at he⟩
theorem s_cmp_loop (n:Nat) (hn:1100<n) (cl:List Eff) (hl:cl.length≤100) (hcl:ClOk cl) (n3:Nat) (l4:List T) (n5:Nat) (l6:List T) (n7:Nat) (l8:List T) (H:List Bool) (ks:List Nat) (hks:ks.length≤1000) (hH:∀ k,k<H.length→decide (k∈ks)=H.getD k false):∀ (j i m:Nat) (S:List Strp) (P:List Eff),S.length=H.length→StOk S→H.length≤100→P.length≤i→i+j=H.length→j<m →
  f62.l0 (n+2) m cl.length (effs cl) n3 l4 n5 l6 n7 l8 P.length (effs P) S.length (strps S) (ints ks).length (its .i64 (ints ks)) (H.length:Int) (i:Int) =
   some (n5,l6,n7,l8,(cmpGo H cl j i S P).2.length,effs (cmpGo H cl j i S P).2,(cmpGo H cl j i S P).1.length,strps (cmpGo H cl j i S P).1):=by
 have hil:(ints ks).length=ks.length:=by simp[ints]
 intro j
 induction j with
 | zero =>
   intro i m S P _ _ _ _ hi hm
   obtain ⟨m,rfl⟩:∃ k,m=k+1:=⟨m - 1,by omega⟩
   rw[f62.l0,nlt_dec (by omega)];rfl
 | succ j ih =>
   intro i m S P hS hok hH100 hP hi hm
   obtain ⟨m,rfl⟩:∃ k,m=k+1:=⟨m - 1,by omega⟩
   have h:i<S.length:=by omega
   have hh:i<H.length:=by omega
   have hb:Nat.ble (i * 5+0+1) (setN (strps S) (i * 5+0) [T.nil]).length=true:=by
    rw[setN_one,List.length_set,strps_length];apply le_ble;omega
   have he:=st_es h []
   have he:setN (strps S) (i * 5+0) [T.lst 0 (reps 0 [(T.int .i64 (0:Int)),(T.int .i64 (0:Int)),(T.lst 0 [])])]=strps (S.set i (stW (sAt5 S i) [])):=he
   have e1:=s_has (n+1) (ints ks) (i:Int) (by omega) (by omega)
   have e1:f122 (n+2) (ints ks).length (its .i64 (ints ks)) (i:Int)=_:=e1
   have hm1:decide ((i:Int)∈ints ks)=H.getD i false:=by
    rw[← hH i hh]
    by_cases hq:i∈ks
    ·rw[decide_eq_true (ints_mem.2 hq),decide_eq_true hq]
    ·rw[decide_eq_false (fun hx=>hq (ints_mem.1 hx)),decide_eq_false hq]
   rw[hm1] at e1
   obtain ⟨g1,g2⟩:=hok _ (sAt5_mem h)
   have hS' :=hok.set H h
   have step:=fun (P':List Eff) (hP':P'.length≤i+1)=>ih (i+1) m (S.set i (compS H i (sAt5 S i))) P' (by rw[List.length_set];exact hS) hS' hH100 hP' (by omega) (by omega)
   rw[List.length_set] at step
   rw[f62.l0,lt_dec hh,in_dec h]
   simp only[br_t,Int.toNat_natCast,okS50 h,gd_t,Bool.and_true,nS5 h,lS5 h,hb,st_nil,he,e1,bd_s,wrap_succ (show i<9223372036854775807 by omega)]
   show _=some (n5,l6,n7,l8,(cmpGo H cl j (i+1) (S.set i (compS H i (sAt5 S i))) (P++compC H cl i)).2.length,effs (cmpGo H cl j (i+1) (S.set i (compS H i (sAt5 S i))) (P++compC H cl i)).2,(cmpGo H cl j (i+1) (S.set i (compS H i (sAt5 S i))) (P++compC H cl i)).1.length,strps (cmpGo H cl j (i+1) (S.set i (compS H i (sAt5 S i))) (P++compC H cl i)).1)
   cases hx:H.getD i false
   ·have hc:compC H cl i=[]:=by unfold compC;rw[hx];rfl
    have hs:compS H i (sAt5 S i)=stW (sAt5 S i) []:=by unfold compS;rw[hx];rfl
    rw[hc,List.append_nil]
    rw[hs] at step ⊢
    simp only[Bool.not_false,br_t]
    exact step P (by omega)
   ·have hs:compS H i (sAt5 S i)=stW (sAt5 S i) (keepE (sAt5 S i).es):=by unfold compS;rw[hx];rfl
    rw[hs] at step ⊢
    have k1:=s_keep (n+2) cl.length (effs cl) n3 l4 n5 l6 n7 l8 P.length (effs P) (ints ks).length (its .i64 (ints ks)) (H.length:Int) (i:Int) S i h (sAt5 S i) (sAt5 S i).es g2 g1 (sAt5 S i).es.length 0 (n+2) [] (effs (sAt5 S i).es) (by omega) (by simp) (sfx_whole _) (by omega)
    rw[List.drop_zero,List.nil_append] at k1
    have k1:f62.l1 (n+2) (n+2) cl.length (effs cl) n3 l4 n5 l6 n7 l8 P.length (effs P) S.length (strps (S.set i (stW (sAt5 S i) []))) (ints ks).length (its .i64 (ints ks)) (i:Int) (sAt5 S i).es.length (effs (sAt5 S i).es) (H.length:Int) (i:Int) ((sAt5 S i).es.length:Int) 0=_:=k1
    have k2:=s_span (n+1) cl hl hcl n3 l4 n5 l6 n7 l8 P.length (effs P) S.length (strps (S.set i (stW (sAt5 S i) (keepE (sAt5 S i).es)))) (ints ks).length (its .i64 (ints ks)) i (H.length:Int) (i:Int) cl.length 0 (n+2) (-1) 0 (by omega) (by omega)
    rw[List.drop_zero] at k2
    have k2:f62.l2 (n+2) (n+2) cl.length (effs cl) n3 l4 n5 l6 n7 l8 P.length (effs P) S.length (strps (S.set i (stW (sAt5 S i) (keepE (sAt5 S i).es)))) (ints ks).length (its .i64 (ints ks)) (i:Int) (-1) 0 (H.length:Int) (i:Int) (cl.length:Int) 0=_:=k2
    have hlen:(S.set i (stW (sAt5 S i) [])).length=S.length:=List.length_set
    simp only[Bool.not_true,br_f,k1,k2,bd_s,wrap_succ (show i<9223372036854775807 by omega)]
    have hsp:=span_ok (i:Int) cl (-1) 0 hcl (.inl ⟨rfl,rfl⟩)
    unfold compC
    rw[hx,if_pos rfl]
    obtain ⟨f,hf⟩:∃ f,f=(spanGo (i:Int) cl (-1) 0).1:=⟨_,rfl⟩
    obtain ⟨t,ht⟩:∃ t,t=(spanGo (i:Int) cl (-1) 0).2:=⟨_,rfl⟩
    rw[← hf,← ht] at hsp ⊢
    rcases hsp with ⟨rfl,rfl⟩ | ⟨a1,a2,a3,a4⟩
    ·rw[show decide ((-1:Int)≥0)=false from rfl,br_f,if_pos (by decide),List.append_nil]
     exact step P (by omega)
    ·obtain ⟨f,rfl⟩:=Int.eq_ofNat_of_zero_le a1
     obtain ⟨t,rfl⟩:=Int.eq_ofNat_of_zero_le (show 0≤t by omega)
     rw[decide_eq_true (show (f:Int)≥0 by omega),br_t,if_neg (show ¬ (f:Int)<0 by omega)]
     have w1:IntKind.i64.wrap ((f:Int)+256)=(f:Int)+256:=by rw[wrap64] <;>omega
     obtain ⟨to_,hto⟩:∃ to_:Nat,(if (t:Int)<(f:Int)+256 then (t:Int) else (f:Int)+256)=(to_:Int):=by
      by_cases hq:(t:Int)<(f:Int)+256
      ·exact ⟨t,if_pos hq⟩
      ·exact ⟨f+256,by rw[if_neg hq];simp⟩
     have hL:(min 256 ((t:Int) - (f:Int))).toNat=to_ - f:=by
      by_cases hq:(t:Int)<(f:Int)+256
      ·rw[if_pos hq] at hto;omega
      ·rw[if_neg hq] at hto;omega
     have hto1:f≤to_∧to_≤1000:=by
      by_cases hq:(t:Int)<(f:Int)+256
      ·rw[if_pos hq] at hto;omega
      ·rw[if_neg hq] at hto;omega
     have e3:=s_samples (n+1) cl n3 l4 (i:Int) to_ (by omega) hl hcl (by omega)
     have e3:f126 (n+2) cl.length (effs cl) n3 l4 (i:Int) (to_:Int)=_:=e3
     have hdr:=trackGo_drop (i:Int) f cl (List.replicate to_ 0) (by rw[List.length_replicate];omega)
     rw[List.drop_replicate] at hdr
     have hq3:decide ((0:Int)≤(f:Int)∧(f:Int)≤(to_:Int)∧(to_:Int)≤(to_:Int))=true:=decide_eq_true (by omega)
     have htk:((fls .f32 (trackGo (i:Int) 0 cl (List.replicate to_ 0))).drop f).take (to_ - f)=fls .f32 (trackGo (i:Int) (f:Int) cl (List.replicate (to_ - f) 0)):=by
      rw[take_whole _ _ _ (by rw[fls_length,trackGo_length,List.length_replicate]),fls_drop,hdr]
     have hlx:(trackGo (i:Int) (f:Int) cl (List.replicate (to_ - f) 0)).length=to_ - f:=by rw[trackGo_length,List.length_replicate]
     have e4:=s_own3 (n+1) (trackGo (i:Int) (f:Int) cl (List.replicate (to_ - f) 0)) (by omega)
     rw[hlx] at e4
     have hp:=push_eff P ⟨(i:Int),(f:Int),trackGo (i:Int) (f:Int) cl (List.replicate (to_ - f) 0)⟩
     unfold effC at hp
     simp only[hlx] at hp
     have hp:effs P++setN (reps 1 [(T.int .i64 (0:Int)),(T.int .i64 (0:Int)),(T.lst 0 [])]) 0 (setN (setN (setN [(T.int .i64 (0:Int)),(T.int .i64 (0:Int)),(T.lst 0 [])] 0 [(T.int .i64 (i:Int))]) 1 [(T.int .i64 (f:Int))]) 2 [(T.lst (to_ - f) (fls .f32 (trackGo (i:Int) (f:Int) cl (List.replicate (to_ - f) 0))))])=_:=hp
     rw[w1,s_min (n+1),hto]
     simp only[bd_s,e3,hq3,gd_t,Int.toNat_natCast,htk,e4,push_ok (show P.length<2147483648 by omega),hp]
     rw[hL,push_len (z:=(⟨(i:Int),(f:Int),trackGo (i:Int) (f:Int) cl (List.replicate (to_ - f) 0)⟩:Eff))]
     exact step (P++[⟨(i:Int),(f:Int),trackGo (i:Int) (f:Int) cl (List.replicate (to_ - f) 0)⟩]) (by rw[List.length_append,List.length_singleton];omega)
theorem i_cmp_loop (n:Nat) (hn:1100<n) (cl:List Eff) (hl:cl.length≤100) (hcl:ClOk cl) (n3:Nat) (l4:List T) (n5:Nat) (l6:List T) (n7:Nat) (l8:List T) (H:List Bool):∀ (j i m:Nat) (S:List Strp) (P:List Eff),S.length=H.length→StOk S→H.length≤100→P.length≤i→i+j=H.length→j<m →
  f63.l0 (n+2) m cl.length (effs cl) n3 l4 n5 l6 n7 l8 P.length (effs P) S.length (strps S) H.length (bls H) (H.length:Int) (i:Int) =
   some (n5,l6,n7,l8,(cmpGo H cl j i S P).2.length,effs (cmpGo H cl j i S P).2,(cmpGo H cl j i S P).1.length,strps (cmpGo H cl j i S P).1):=by
 intro j
 induction j with
 | zero =>
   intro i m S P _ _ _ _ hi hm
   obtain ⟨m,rfl⟩:∃ k,m=k+1:=⟨m - 1,by omega⟩
   rw[f63.l0,nlt_dec (by omega)];rfl
 | succ j ih =>
   intro i m S P hS hok hH100 hP hi hm
   obtain ⟨m,rfl⟩:∃ k,m=k+1:=⟨m - 1,by omega⟩
   have h:i<S.length:=by omega
   have hh:i<H.length:=by omega
   have hb:Nat.ble (i * 5+0+1) (setN (strps S) (i * 5+0) [T.nil]).length=true:=by
    rw[setN_one,List.length_set,strps_length];apply le_ble;omega
   have hb2:Nat.ble (i * 5+0+1) (strps S).length=true:=by
    rw[strps_length];apply le_ble;omega
   have he:=st_es h []
   have he:setN (strps S) (i * 5+0) [T.lst 0 []]=strps (S.set i (stW (sAt5 S i) [])):=he
   have he2:=st_es h (keepE (sAt5 S i).es)
   obtain ⟨g1,g2⟩:=hok _ (sAt5_mem h)
   have hS' :=hok.set H h
   have step:=fun (P':List Eff) (hP':P'.length≤i+1)=>ih (i+1) m (S.set i (compS H i (sAt5 S i))) P' (by rw[List.length_set];exact hS) hS' hH100 hP' (by omega) (by omega)
   rw[List.length_set] at step
   have hdel:xDelUnit 3 (n+2) (sAt5 S i).es.length (effs (sAt5 S i).es)=some ((keepE (sAt5 S i).es).length,effs (keepE (sAt5 S i).es),(sAt5 S i).es.length,effs (sAt5 S i).es):=by
    show delRows 3 (prUnit []) (sAt5 S i).es.length (effs (sAt5 S i).es)=_
    unfold delRows
    rw[if_pos (by omega),keep_un _ g2]
   rw[f63.l0,lt_dec hh,in_dec hh,in_dec h]
   simp only[br_t,Int.toNat_natCast,okAt_bls hh,bAt_bls,okS50 h,gd_t,Bool.and_true,nS5 h,lS5 h,hb,hb2,st_nil,he,hdel,bd_s,he2,wrap_succ (show i<9223372036854775807 by omega)]
   show _=some (n5,l6,n7,l8,(cmpGo H cl j (i+1) (S.set i (compS H i (sAt5 S i))) (P++compC H cl i)).2.length,effs (cmpGo H cl j (i+1) (S.set i (compS H i (sAt5 S i))) (P++compC H cl i)).2,(cmpGo H cl j (i+1) (S.set i (compS H i (sAt5 S i))) (P++compC H cl i)).1.length,strps (cmpGo H cl j (i+1) (S.set i (compS H i (sAt5 S i))) (P++compC H cl i)).1)
   cases hx:H.getD i false
   ·have hc:compC H cl i=[]:=by unfold compC;rw[hx];rfl
    have hs:compS H i (sAt5 S i)=stW (sAt5 S i) []:=by unfold compS;rw[hx];rfl
    rw[hc,List.append_nil]
    rw[hs] at step ⊢
    simp only[Bool.not_false,br_t]
    exact step P (by omega)
   ·have hs:compS H i (sAt5 S i)=stW (sAt5 S i) (keepE (sAt5 S i).es):=by unfold compS;rw[hx];rfl
    rw[hs] at step ⊢
    have k2:=i_span n cl hl hcl cl.length (effs cl) n3 l4 n5 l6 n7 l8 P.length (effs P) S.length (strps (S.set i (stW (sAt5 S i) (keepE (sAt5 S i).es)))) i H.length (bls H) (H.length:Int) (i:Int) cl.length 0 (n+2) (-1) 0 (by omega) (by omega)
    rw[List.drop_zero] at k2
    have k2:f63.l1 (n+2) (n+2) cl.length (effs cl) n3 l4 n5 l6 n7 l8 P.length (effs P) S.length (strps (S.set i (stW (sAt5 S i) (keepE (sAt5 S i).es)))) (i:Int) (-1) 0 H.length (bls H) (H.length:Int) (i:Int) cl.length (effs cl) (cl.length:Int) 0=_:=k2
    simp only[Bool.not_true,br_f,k2,bd_s,wrap_succ (show i<9223372036854775807 by omega)]
    have hsp:=span_ok (i:Int) cl (-1) 0 hcl (.inl ⟨rfl,rfl⟩)
    unfold compC
    rw[hx,if_pos rfl]
    obtain ⟨f,hf⟩:∃ f,f=(spanGo (i:Int) cl (-1) 0).1:=⟨_,rfl⟩
    obtain ⟨t,ht⟩:∃ t,t=(spanGo (i:Int) cl (-1) 0).2:=⟨_,rfl⟩
    rw[← hf,← ht] at hsp ⊢
    rcases hsp with ⟨rfl,rfl⟩ | ⟨a1,a2,a3,a4⟩
    ·rw[show decide ((-1:Int)≥0)=false from rfl,br_f,if_pos (by decide),List.append_nil]
     exact step P (by omega)
    ·obtain ⟨f,rfl⟩:=Int.eq_ofNat_of_zero_le a1
     obtain ⟨t,rfl⟩:=Int.eq_ofNat_of_zero_le (show 0≤t by omega)
     rw[decide_eq_true (show (f:Int)≥0 by omega),br_t,if_neg (show ¬ (f:Int)<0 by omega)]
     have w1:IntKind.i64.wrap ((t:Int) - (f:Int))=(t:Int) - (f:Int):=by rw[wrap64] <;>omega
     obtain ⟨L,hL⟩:∃ L,L=(min 256 ((t:Int) - (f:Int))).toNat:=⟨_,rfl⟩
     have hL2:(if (t:Int) - (f:Int)<256 then (t:Int) - (f:Int) else 256)=(L:Int):=by
      by_cases hq:(t:Int) - (f:Int)<256
      ·rw[if_pos hq];omega
      ·rw[if_neg hq];omega
     have hL3:L≤256:=by omega
     have e3:=i_samples n cl n3 l4 (i:Int) (f:Int) L (by omega) (by omega) hl hcl (by omega)
     have hlx:(trackGo (i:Int) (f:Int) cl (List.replicate L 0)).length=L:=by rw[trackGo_length,List.length_replicate]
     have hp:=push_eff P ⟨(i:Int),(f:Int),trackGo (i:Int) (f:Int) cl (List.replicate L 0)⟩
     unfold effC at hp
     simp only[hlx] at hp
     have hp:effs P++setN (reps 1 [(T.int .i64 (0:Int)),(T.int .i64 (0:Int)),(T.lst 0 [])]) 0 (setN (setN (setN [(T.int .i64 (0:Int)),(T.int .i64 (0:Int)),(T.lst 0 [])] 0 [(T.int .i64 (i:Int))]) 1 [(T.int .i64 (f:Int))]) 2 [(T.lst L (fls .f32 (trackGo (i:Int) (f:Int) cl (List.replicate L 0))))])=_:=hp
     rw[w1,hL2,← hL]
     simp only[e3,bd_s,push_ok (show P.length<2147483648 by omega),gd_t,hp]
     rw[push_len (z:=(⟨(i:Int),(f:Int),trackGo (i:Int) (f:Int) cl (List.replicate L 0)⟩:Eff))]
     exact step (P++[⟨(i:Int),(f:Int),trackGo (i:Int) (f:Int) cl (List.replicate L 0)⟩]) (by rw[List.length_append,List.length_singleton];omega)
def compiledS (cl:List Eff) (ss:List Strp):List Strp:=(cmpGo (heardB ss) cl ss.length 0 ss []).1
def compiledC (cl:List Eff) (ss:List Strp):List Eff:=(cmpGo (heardB ss) cl ss.length 0 ss []).2
theorem compC_facts {H:List Bool} {cl:List Eff} {k:Nat} (hcl:ClOk cl):(compC H cl k).length≤1∧∀ c∈compC H cl k,c.kind=(k:Int)∧(0≤c.len∧c.len≤256)∧c.nums.length≤256:=by
 have hsp:=span_ok (k:Int) cl (-1) 0 hcl (.inl ⟨rfl,rfl⟩)
 unfold compC
 split
 ·split
  ·exact ⟨by simp,fun c hc=>by simp at hc⟩
  ·rename_i hf
   refine ⟨by simp,fun c hc => ?_⟩
   rw[List.mem_singleton] at hc
   subst hc
   refine ⟨rfl,?_,?_⟩
   ·show 0≤(spanGo (k:Int) cl (-1) 0).1∧(spanGo (k:Int) cl (-1) 0).1≤256
    rcases hsp with ⟨h,-⟩ | h <;>omega
   ·show (trackGo (k:Int) (spanGo (k:Int) cl (-1) 0).1 cl (List.replicate (min 256 ((spanGo (k:Int) cl (-1) 0).2 - (spanGo (k:Int) cl (-1) 0).1)).toNat 0)).length≤256
    rw[trackGo_length,List.length_replicate]
    omega
 ·exact ⟨by simp,fun c hc=>by simp at hc⟩
theorem szE_keep:∀ (es:List Eff),szE (keepE es)≤szE es
 | []=>Nat.le_refl _
 | e::es=>by
   have ih:=szE_keep es
   unfold keepE at ih ⊢
   rw[List.filter_cons]
   split
   ·simp only[szE];omega
   ·simp only[szE];omega
theorem szSt_set2:∀ (ss:List Strp) (i:Nat) (y:Strp),szE y.es≤szE (sAt5 ss i).es→szSt (ss.set i y)≤szSt ss
 | [],_,_,_=>by simp[szSt]
 | s::ss,0,y,h=>by
   have h:szE y.es≤szE s.es:=h
   simp only[List.set_cons_zero,szSt];omega
 | s::ss,i+1,y,h=>by
   have:=szSt_set2 ss i y h
   simp only[List.set_cons_succ,szSt];omega
structure CmpInv (n:Nat) (S:List Strp) (P:List Eff) (i M:Nat):Prop where
 len:S.length=n
 st:∀ s∈S,chainB s.es=true∧(-2000≤s.tn∧s.tn≤2000)∧panB s.pan=true
 sz:szSt S≤M
 pl:P.length≤i
 pc:∀ c∈P,(0≤c.kind∧c.kind<(n:Int))∧(0≤c.len∧c.len≤256)∧c.nums.length≤256
theorem cmp_inv (H:List Bool) (cl:List Eff) (hcl:ClOk cl) (n M:Nat):∀ (j i:Nat) (S:List Strp) (P:List Eff),CmpInv n S P i M→i+j=n→CmpInv n (cmpGo H cl j i S P).1 (cmpGo H cl j i S P).2 n M:=by
 intro j
 induction j with
 | zero=>intro i S P h hi;obtain rfl:i=n:=by omega
         exact h
 | succ j ih =>
   intro i S P h hi
   have hS:i<S.length:=by rw[h.len];omega
   obtain ⟨c1,c2⟩:=compC_facts (H:=H) (k:=i) hcl
   obtain ⟨s1,s2,s3⟩:=h.st _ (sAt5_mem hS)
   refine ih (i+1) _ _ ⟨by rw[List.length_set];exact h.len,fun s hs => ?_,?_,?_,fun c hc => ?_⟩ (by omega)
   ·rcases List.mem_or_eq_of_mem_set hs with hs | rfl
    ·exact h.st s hs
    ·refine ⟨?_,s2,s3⟩
     show chainB (if H.getD i false then keepE (sAt5 S i).es else [])=true
     unfold chainB at s1 ⊢
     simp only[Bool.and_eq_true,decide_eq_true_eq,List.all_eq_true] at s1 ⊢
     split
     ·exact ⟨Nat.le_trans (keepE_length _) s1.1,fun e he=>s1.2 e (keepE_mem he)⟩
     ·exact ⟨by simp,fun e he=>by simp at he⟩
   ·refine Nat.le_trans (szSt_set2 S i _ ?_) h.sz
    show szE (if H.getD i false then keepE (sAt5 S i).es else [])≤_
    split
    ·exact szE_keep _
    ·simp[szE]
   ·rw[List.length_append];have:=h.pl;omega
   ·rcases List.mem_append.1 hc with hc | hc
    ·exact h.pc c hc
    ·obtain ⟨q1,q2⟩:=c2 c hc
     exact ⟨by rw[q1];omega,q2⟩
theorem cmp_good {cl:List Eff} {ss:List Strp} (h:SOk cl ss) (M:Nat) (hM:szSt ss≤M):CmpInv ss.length (compiledS cl ss) (compiledC cl ss) ss.length M :=
 cmp_inv (heardB ss) cl (fun c hc=>(h.k c hc).2) ss.length M ss.length 0 ss [] ⟨rfl,h.s,hM,by simp,fun c hc=>by simp at hc⟩ (by omega)
theorem cmp_sessB {cl:List Eff} {ss:List Strp} (h:SOk cl ss):sessB (compiledC cl ss) (compiledS cl ss)=true:=by
 have g:=cmp_good h (szSt ss) (Nat.le_refl _)
 have hn:=h.n
 have g1:=g.len
 have g2:=g.pl
 unfold sessB
 simp only[Bool.and_eq_true,decide_eq_true_eq,List.all_eq_true]
 refine ⟨by omega,by omega,fun s hs => ?_,fun c hc => ?_⟩
 ·obtain ⟨a,b,c⟩:=g.st s hs
  unfold stB
  simp only[Bool.and_eq_true,decide_eq_true_eq]
  exact ⟨a,b,c⟩
 ·obtain ⟨a,b,d⟩:=g.pc c hc
  unfold clB
  simp only[Bool.and_eq_true,decide_eq_true_eq]
  exact ⟨by omega,b,d⟩
theorem st_okS {cl:List Eff} {ss:List Strp} (h:SOk cl ss):StOk ss:=fun s hs=>by
 have h1:=(h.s s hs).1
 unfold chainB at h1
 simp only[Bool.and_eq_true,decide_eq_true_eq,List.all_eq_true] at h1
 exact ⟨by omega,h1.2⟩
theorem s_compile (n:Nat) (hn:1300<n) (cl:List Eff) (ss:List Strp) (hg:GoodS cl ss) :
  f62 (n+200) cl.length (effs cl) ss.length (strps ss)=some (if sessB cl ss=true then ((compiledC cl ss).length,effs (compiledC cl ss),(compiledS cl ss).length,strps (compiledS cl ss),true) else (0,[],0,[],false)):=by
 have v1:=s_sessB (n+193) cl ss (by omega)
 have v1:f105 (n+199) cl.length (effs cl) ss.length (strps ss)=_:=v1
 rw[f62,v1]
 cases h1:sessB cl ss
 ·rw[if_neg (by simp)];rfl
 rw[if_pos rfl]
 have hok:=sess_ok h1
 have hcl:ClOk cl:=fun c hc=>(hok.k c hc).2
 have hc12:=hok.c
 have hs8:=hok.n
 have o1:=s_ownq (n+196) (by omega) cl ss (by omega) (fun e he=>by have:=(hcl e he).2;omega) (by omega) (strips_small hok hg)
 have o1:f107 (n+199) cl.length (effs cl) ss.length (strps ss)=_:=o1
 have o2:=s_sheard (n+197) cl.length (effs cl) ss (by omega) (by omega)
 have o2:f121 (n+199) cl.length (effs cl) ss.length (strps ss)=_:=o2
 have hkl:(heardI ss).length≤1000:=by
  have:=(hix_facts (anyS (ss.map toTrk)) (ss.map toTrk) (ss.map toTrk).length 0 (by omega)).1
  rw[List.drop_zero] at this
  have h2:=congrArg List.length this
  rw[List.length_map] at h2
  have h3:((ss.map toTrk).filter (hf (anyS (ss.map toTrk)))).length≤(ss.map toTrk).length:=List.length_filter_le _ _
  rw[List.length_map] at h3
  unfold heardI;omega
 have l1:=s_cmp_loop (n+197) (by omega) cl (by omega) hcl ss.length (strps ss) 0 [] 0 [] (heardB ss) (heardI ss) hkl (fun k hk=>heard_mem (by rw[heardB_length] at hk;exact hk)) ss.length 0 (n+199) ss [] (by rw[heardB_length]) (st_okS hok) (by rw[heardB_length];omega) (by simp) (by rw[heardB_length];omega) (by omega)
 rw[heardB_length] at l1
 have l1:f62.l0 (n+199) (n+199) cl.length (effs cl) ss.length (strps ss) 0 [] 0 [] 0 (reps 0 [(T.int .i64 (0:Int)),(T.int .i64 (0:Int)),(T.lst 0 [])]) ss.length (strps ss) (ints (heardI ss)).length (its .i64 (ints (heardI ss))) (ss.length:Int) 0=_:=l1
 simp only[bd_s,Bool.not_true,br_f,o1,o2,l1]
 rfl
theorem i_compile (n:Nat) (hn:1300<n) (cl:List Eff) (ss:List Strp) (hg:GoodS cl ss) :
  f63 (n+200) cl.length (effs cl) ss.length (strps ss)=some (if sessB cl ss=true then ((compiledC cl ss).length,effs (compiledC cl ss),(compiledS cl ss).length,strps (compiledS cl ss),true) else (0,[],0,[],false)):=by
 have v1:=i_sessB (n+193) cl ss (by omega)
 have v1:f101 (n+199) cl.length (effs cl) ss.length (strps ss)=_:=v1
 rw[f63,v1]
 cases h1:sessB cl ss
 ·rw[if_neg (by simp)];rfl
 rw[if_pos rfl]
 have hok:=sess_ok h1
 have hcl:ClOk cl:=fun c hc=>(hok.k c hc).2
 have hc12:=hok.c
 have hs8:=hok.n
 have o1:=i_own (n+196) (by omega) cl ss (by omega) (fun e he=>by have:=(hcl e he).2;omega) (by omega) (strips_small hok hg)
 have o1:f103 (n+199) cl.length (effs cl) ss.length (strps ss)=_:=o1
 have o2:=i_sheard (n+195) cl.length (effs cl) ss (by omega) (by omega)
 have o2:f127 (n+199) cl.length (effs cl) ss.length (strps ss)=_:=o2
 have l1:=i_cmp_loop (n+197) (by omega) cl (by omega) hcl ss.length (strps ss) 0 [] 0 [] (heardB ss) ss.length 0 (n+199) ss [] (by rw[heardB_length]) (st_okS hok) (by rw[heardB_length];omega) (by simp) (by rw[heardB_length];omega) (by omega)
 rw[heardB_length] at l1
 have l1:f63.l0 (n+199) (n+199) cl.length (effs cl) ss.length (strps ss) 0 [] 0 [] 0 [] ss.length (strps ss) ss.length (bls (heardB ss)) (ss.length:Int) 0=_:=l1
 have ck:=i_checkedq (n+192) (by omega) (compiledC cl ss) (compiledS cl ss)
 rw[if_pos (cmp_sessB hok)] at ck
 have ck:f104 (n+199) (cmpGo (heardB ss) cl ss.length 0 ss []).2.length (effs (cmpGo (heardB ss) cl ss.length 0 ss []).2) (cmpGo (heardB ss) cl ss.length 0 ss []).1.length (strps (cmpGo (heardB ss) cl ss.length 0 ss []).1)=_:=ck
 simp only[bd_s,Bool.not_true,br_f,o1,o2,l1,ck,sm_r]
theorem cmp_fin {cl:List Eff} {ss:List Strp} (h:SOk cl ss) (hf:Fin cl ss):Fin (compiledC cl ss) (compiledS cl ss):=by
 have g:=cmp_good h 1048576 hf.s
 have hn:=h.n
 have q:=szE_few (compiledC cl ss) (fun e he=>(g.pc e he).2.2)
 have:=g.pl
 exact ⟨by omega,g.sz⟩
theorem both (n:Nat) (hn:1300<n) (cl:List Eff) (ss:List Strp) (hg:GoodS cl ss) (hf:Fin cl ss) :
  ∃ (cl':List Eff) (ss':List Strp) (b:Bool),Fin cl' ss'∧f62 (n+200) cl.length (effs cl) ss.length (strps ss)=some (cl'.length,effs cl',ss'.length,strps ss',b)∧f63 (n+200) cl.length (effs cl) ss.length (strps ss)=some (cl'.length,effs cl',ss'.length,strps ss',b):=by
 have h1:=s_compile n hn cl ss hg
 have h2:=i_compile n hn cl ss hg
 by_cases h:sessB cl ss=true
 ·rw[if_pos h] at h1 h2
  exact ⟨compiledC cl ss,compiledS cl ss,true,cmp_fin (sess_ok h) hf,h1,h2⟩
 ·rw[if_neg h] at h1 h2
  exact ⟨[],[],false,⟨by simp[szE],by simp[szSt]⟩,h1,h2⟩
theorem exact_ (cl:List Eff) (ss:List Strp) (hg:GoodS cl ss) (hh:Huge cl ss):∃ n,f11 n cl.length (effs cl) ss.length (strps ss)=some true:=by
 refine ⟨1048577+1+2001,?_⟩
 generalize hN:1048577+1=N
 rw[show N+2001=(N+2000)+1 from rfl,f11]
 rcases sz_sess (N+1994) cl ss hh (by omega) with ⟨r,r0,e0,hf⟩ | e0
 case inr =>
  have e0:f55 (N+2000) cl.length (effs cl) ss.length (strps ss) 1048576=some (-1):=e0
  rw[e0];rfl
 have e0:f55 (N+2000) cl.length (effs cl) ss.length (strps ss) 1048576=some r:=e0
 have e1:=to_sess (N+1994) cl ss hf (by omega)
 have e1:f56 (N+2000) cl.length (effs cl) ss.length (strps ss)=_:=e1
 obtain ⟨cl',ss',b,hx,e2,e3⟩:=both (N+1800) (by omega) cl ss hg hf
 have e2:f62 (N+2000) cl.length (effs cl) ss.length (strps ss)=_:=e2
 have e3:f63 (N+2000) cl.length (effs cl) ss.length (strps ss)=_:=e3
 have e4:=eq_sess (N+1993) cl ss hf (by omega)
 have e4:f57 (N+2000) cl.length (effs cl) ss.length (strps ss) cl.length (effs cl) ss.length (strps ss)=_:=e4
 have e5:=mk_sess (N+1996) cl ss hf (by omega)
 have e5:f58 (N+2000) cl.length (effs cl) ss.length (strps ss) 1=_:=e5
 have e6:=eq_sess (N+1993) cl' ss' hx (by omega)
 have e6:f57 (N+2000) cl'.length (effs cl') ss'.length (strps ss') cl'.length (effs cl') ss'.length (strps ss')=_:=e6
 have e7:=mk_sess (N+1996) cl' ss' hx (by omega)
 have e7:f58 (N+2000) cl'.length (effs cl') ss'.length (strps ss') 1=_:=e7
 have e8:=hd_sess (N+1996) cl' ss' hx (by omega)
 have e8:f59 (N+2000) cl'.length (effs (marksE 1 cl')) ss'.length (strps (marksSt (1+mkE cl') ss')) 1=_:=e8
 have b1:=mkE_nonneg cl
 have b2:=mkSt_nonneg ss
 have b3:=mkE_nonneg cl'
 have b4:=mkSt_nonneg ss'
 simp only[e0,bd_s,decide_eq_false (show ¬ r<0 by omega),br_f,e1,e2,e3,e4,e5,e6,e7,e8,Bool.not_true,beq_self_eq_true,decide_eq_false (show ¬ (1+mkE cl+mkSt ss<0) by omega),decide_eq_false (show ¬ (1+mkE cl'+mkSt ss'<0) by omega),bne_self_eq_false]
theorem law11:∀ args,LawArgs E Try.f11.params.toList args→∃ N os,evalFn E N 11 args=some ⟨[⟨false,[.leaf],[.bool true]⟩],os⟩:=by
 intro args h0
 have hp:Try.f11.params.toList=[97]:=by kernel_rfl
 rw[hp] at h0
 obtain ⟨ts0,r0,rfl,hw0,h1⟩:=h0.cons_inv (d:=⟨true,2,48,[.sl .own [.leaf,.leaf,.sl .own [.leaf]],.sl .own [.sl .own [.leaf,.leaf,.sl .own [.leaf]],.leaf,.leaf,.leaf,.leaf]],[.lst 0 [],.lst 0 []],.st [(0,94),(1,95)]⟩) (by kernel_rfl)
 obtain ⟨cl0,ss0,rfl,gs0,gh0⟩:=session_inv (dS:=⟨true,2,48,[.sl .own [.leaf,.leaf,.sl .own [.leaf]],.sl .own [.sl .own [.leaf,.leaf,.sl .own [.leaf]],.leaf,.leaf,.leaf,.leaf]],[.lst 0 [],.lst 0 []],.st [(0,94),(1,95)]⟩) (by kernel_rfl) rfl (dCs:=⟨false,1,24,[.sl .own [.leaf,.leaf,.sl .own [.leaf]]],[.lst 0 []],.slc 191⟩) (by kernel_rfl) rfl (dC:=⟨true,3,40,[.leaf,.leaf,.sl .own [.leaf]],[.int .i64 0,.int .i64 0,.lst 0 []],.st [(0,2),(1,2),(2,24)]⟩) (by kernel_rfl) rfl (dSs:=⟨false,1,24,[.sl .own [.sl .own [.leaf,.leaf,.sl .own [.leaf]],.leaf,.leaf,.leaf,.leaf]],[.lst 0 []],.slc 195⟩) (by kernel_rfl) rfl (dSt:=⟨true,5,40,[.sl .own [.leaf,.leaf,.sl .own [.leaf]],.leaf,.leaf,.leaf,.leaf],[.lst 0 [],.int .i64 0,.flt .f32 0,.bool false,.bool false],.st [(0,193),(1,2),(2,29),(3,4),(4,4)]⟩) (by kernel_rfl) rfl (dB:=⟨false,1,1,[.leaf],[.bool false],.bool⟩) (by kernel_rfl) rfl (dEs:=⟨false,1,24,[.sl .own [.leaf,.leaf,.sl .own [.leaf]]],[.lst 0 []],.slc 235⟩) (by kernel_rfl) rfl (dE:=⟨true,3,40,[.leaf,.leaf,.sl .own [.leaf]],[.int .i64 0,.int .i64 0,.lst 0 []],.st [(0,2),(1,2),(2,24)]⟩) (by kernel_rfl) rfl (dI:=⟨false,1,8,[.leaf],[.int .i64 0],.int .i64⟩) (by kernel_rfl) rfl (dFs:=⟨false,1,24,[.sl .own [.leaf]],[.lst 0 []],.slc 29⟩) (by kernel_rfl) rfl (dF:=⟨false,1,4,[.leaf],[.flt .f32 0],.flt .f32⟩) (by kernel_rfl) rfl hw0
 obtain rfl:=h1.nil_inv
 obtain ⟨N,hN⟩:=exact_ cl0 ss0 gs0 gh0
 exact ⟨N,_,f11.ok N (cl0.length,effs cl0,ss0.length,strps ss0) true hN⟩
end Go.Proofs.Ytdobhipbgpiceaa.D
end
section
namespace Go.Proofs.Ytdobhipbgpiceaa.fnExactCompileSession
open Go Go.ChangeShapes Go.WideShapes Go.ChangeAt Go.RowKit Go.Desk
set_option linter.unusedVariables false
theorem own:ownKnob Try.prog.godebug=none:=by kernel_rfl
theorem laidOut:laidOutB Try.prog=true:=by kernel_rfl
set_option maxRecDepth 100000 in
theorem lifted (os:Os) (started:os.Started) (H:Type) (enc:TypeId × Value→H) :
  ReturnsInHanded {} Try.checked os 11 .any (Rows.fnExactCompileSessionSpec.pre6 enc Try.prog Try.f11 Rows.fnExactCompileSessionRow.domain false) (Rows.fnExactCompileSessionSpec.post enc Try.prog Try.f11 false true false false):=by
 refine returnsInHanded_of_change (C:=Try.checked) own started (by kernel_rfl) Try.func11
  (ChangeSpec.witness6 (enc:=enc) (C:=Try.checked) false ⟨#[],#[.agg #[.slice none 0 0,.slice none 0 0]],[]⟩ 8 (by kernel_rfl) (by kernel_rfl) (by kernel_rfl) (by kernel_rfl)) ?_
 intro W base args ds gs before hval hW hcnd _
 exact law_contract (c:=D.c11) Try.checked.mixed D.tysOk D.fnOk Try.func11 (by kernel_rfl) (by kernel_rfl) (by kernel_rfl) Try.underlying4 rfl
  (fun ds h=>by
    rw[show Try.f11.params.toList.length=1 by kernel_rfl] at h
    match ds,h with
    | [_],_=>rfl)
  laidOut (N:=8) (by kernel_rfl) (by kernel_rfl) D.law11 hval hW
theorem over:Rows.fnExactCompileSessionRow.holds Try.pinned (OpenSpec.ofChange Rows.fnExactCompileSessionSpec) :=
 OpenClaim.holds_of_wide 11 Try.f11 rfl rfl rfl rfl rfl rfl rfl ⟨rfl,rfl,rfl,rfl,rfl⟩ rfl rfl rfl rfl rfl (by kernel_rfl) Try.func11 (by kernel_rfl)
  (of_decide_eq_true (by kernel_rfl)) (by unfold Func.isWrapper;first | (rw[if_pos (by decide +kernel)];kernel_rfl) | (rw[if_neg (by decide +kernel)];exact ⟨rfl,rfl⟩))
  (fun os started H enc _=>lifted os started H enc)
theorem proved:Rows.FnExactCompileSessionSaid:=over
#print axioms proved
end Go.Proofs.Ytdobhipbgpiceaa.fnExactCompileSession
namespace Go.Proofs.Ytdobhipbgpiceaa
theorem fnExactCompileSession_holds:Rows.FnExactCompileSessionSaid:=fnExactCompileSession.proved
end Go.Proofs.Ytdobhipbgpiceaa
end
