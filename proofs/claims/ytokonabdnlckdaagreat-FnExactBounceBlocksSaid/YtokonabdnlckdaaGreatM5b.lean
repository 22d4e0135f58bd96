/- FnExactBounceBlocks holds: for every input the law returns true, and its arguments read as before. -/
import Derived.Test.YtokonabdnlckdaaGreatChecked
import Derived.KernelRfl
import Derived.Test.YtokonabdnlckdaaGreatRows
import Derived.WalkKit
import Derived.ProofKit
import Derived.OpenShut
import Derived.ShutString
import Derived.ChangeOld
import Derived.Below
import Derived.SizedLaws
import Derived.Test.YtokonabdnlckdaaGreatKernC
import Derived.Test.YtokonabdnlckdaaGreatM5a
set_option linter.all false
set_option linter.unusedVariables false
noncomputable section
namespace Go.Proofs.YtokonabdnlckdaaGreat.D
open Go Go.Desk
def f22.O (n:Nat):Orc:=orcOf (E:=E) [f38.w,f44.w,f37.w,f43.w,f54.w,f55.w,f56.w,f40.w,f57.w,f46.w] [f22.l0.W n,f22.l2.W n,f22.l1.W n] n
theorem f22.l0.ok:∀ n,LpS 22 c22 0 n (f22.O n):=lpS f22.l0.P sg_iilllii f22.l0.A f22.l0.F
theorem f22.l2.ok:∀ n,LpS 22 c22 2 n (f22.O n):=lpS f22.l2.P sg_iillllliilii f22.l2.A f22.l2.F
theorem f22.l1.ok:∀ n,LpS 22 c22 1 n (f22.O n):=lpS f22.l1.P sg_iillllli f22.l1.A f22.l1.F [loopAt c22 2] (fun n=>(.cons (f22.l2.ok n) .nil))
theorem f22.ok:FnS 22 f22.P sg_llii f22.A f22.F:=fnS c22 f22.O [loopAt c22 0,loopAt c22 1] (fun n=>(.cons (f22.l0.ok n) (.cons (f22.l1.ok n) .nil)))
def f22.w:FnW E:=fnW 22 f22.P sg_llii f22.A f22.F f22.ok
def f29:Nat→Int→Int→Int→Option (Bool)
 | 0,_,_,_=>none
 | n+1,i1,i2,i3 =>
   br (decide (i2≤i1)) (
    some (decide (i1≤i3))) (
    some false)
def f29.P:List Arg:=[qA19,qA19,qA19]
def f29.A:RAlt (Bool):=.one ⟨[qV15],[none,none,none]⟩ sg_b
def f29.F (n:Nat) (v:Int × Int × Int):=f29 n v.1 v.2.1 v.2.2
def f29.O (n:Nat):Orc:=orcOf (E:=E) [] [] n
theorem f29.ok:FnS 29 f29.P sg_iii f29.A f29.F:=fnS c29 f29.O
def f29.w:FnW E:=fnW 29 f29.P sg_iii f29.A f29.F f29.ok
def f32:Nat→Int→Option (Int)
 | 0,_=>none
 | n+1,i1 =>
   some i1
def f32.P:List Arg:=[qA19]
def f32.A:RAlt (Int):=.one ⟨[qV14],[none]⟩ sg_i
def f32.F (n:Nat) (v:Int):=f32 n v
def f32.O (n:Nat):Orc:=orcOf (E:=E) [] [] n
theorem f32.ok:FnS 32 f32.P sg_i f32.A f32.F:=fnS c32 f32.O
def f32.w:FnW E:=fnW 32 f32.P sg_i f32.A f32.F f32.ok
def f62:Nat→Int→Option (Bool)
 | 0,_=>none
 | n+1,i1 =>
   bd (f29 n i1 (1:Int) (8:Int)) fun r2 =>
   let b3:=r2
   some b3
def f62.P:List Arg:=[qA19]
def f62.A:RAlt (Bool):=.one ⟨[qV15],[none]⟩ sg_b
def f62.F (n:Nat) (v:Int):=f62 n v
def f62.O (n:Nat):Orc:=orcOf (E:=E) [f29.w] [] n
theorem f62.ok:FnS 62 f62.P sg_i f62.A f62.F:=fnS c62 f62.O
def f62.w:FnW E:=fnW 62 f62.P sg_i f62.A f62.F f62.ok
def f129:Nat→Int→Int→Nat→List T→Int→Int→Int→Option (Bool)
 | 0,_,_,_,_,_,_,_=>none
 | n+1,i1,i2,n3,l4,i5,i6,i7 =>
   bd (f29 n i2 i5 i6) fun r8 =>
   let b9:=r8
   br b9 (
    some ((n3:Int)==i7)) (
    some false)
def sg_iiliii:Sig (Int × Int × Nat × List T × Int × Int × Int) where
 pk:=fun v=>[.int v.1,.int v.2.1,.lst v.2.2.1 v.2.2.2.1,.int v.2.2.2.2.1,.int v.2.2.2.2.2.1,.int v.2.2.2.2.2.2]
 up:=fun ls=>match ls with
  | [.int a0,.int a1,.lst a2 a3,.int a4,.int a5,.int a6]=>some (a0,a1,a2,a3,a4,a5,a6)
  | _=>none
 ok:=by intro _ _ h;split at h <;>cases h;rfl
def f129.P:List Arg:=[qA23,qA19,qA19,qA19]
def f129.A:RAlt (Bool):=.one ⟨[qV15],[none,none,none,none]⟩ sg_b
def f129.F (n:Nat) (v:Int × Int × Nat × List T × Int × Int × Int):=f129 n v.1 v.2.1 v.2.2.1 v.2.2.2.1 v.2.2.2.2.1 v.2.2.2.2.2.1 v.2.2.2.2.2.2
def f129.O (n:Nat):Orc:=orcOf (E:=E) [f29.w] [] n
theorem f129.ok:FnS 129 f129.P sg_iiliii f129.A f129.F:=fnS c129 f129.O
def f129.w:FnW E:=fnW 129 f129.P sg_iiliii f129.A f129.F f129.ok
def f160:Nat→Nat→Option (Bool)
 | 0,_=>none
 | n+1,x1 =>
   some (feq .f32 (fsub .f32 x1 x1) 0)
def f160.P:List Arg:=[qA20]
def f160.A:RAlt (Bool):=.one ⟨[qV15],[none]⟩ sg_b
def f160.F (n:Nat) (v:Nat):=f160 n v
def f160.O (n:Nat):Orc:=orcOf (E:=E) [] [] n
theorem f160.ok:FnS 160 f160.P sg_f f160.A f160.F:=fnS c160 f160.O
def f160.w:FnW E:=fnW 160 f160.P sg_f f160.A f160.F f160.ok
def f130:Nat→Nat→Option (Bool)
 | 0,_=>none
 | n+1,x1 =>
   bd (f160 n x1) fun r2 =>
   let b3:=r2
   br b3 (
    some (fgt .f32 x1 0)) (
    some false)
def f130.P:List Arg:=[qA20]
def f130.A:RAlt (Bool):=.one ⟨[qV15],[none]⟩ sg_b
def f130.F (n:Nat) (v:Nat):=f130 n v
def f130.O (n:Nat):Orc:=orcOf (E:=E) [f160.w] [] n
theorem f130.ok:FnS 130 f130.P sg_f f130.A f130.F:=fnS c130 f130.O
def f130.w:FnW E:=fnW 130 f130.P sg_f f130.A f130.F f130.ok
def f99:Nat→Int→Int→Nat→List T→Option (Bool)
 | 0,_,_,_,_=>none
 | n+1,i1,i2,n3,l4 =>
   br (i1==(0:Int)) (
    br (i1==(0:Int)) (
     bd (f129 n i1 i2 n3 l4 (0:Int) (0:Int) (1:Int)) fun r5 =>
     let b6:=r5
     some b6) (
     br (i1==(1:Int)) (
      bd (f129 n i1 i2 n3 l4 (0:Int) (0:Int) (5:Int)) fun r7 =>
      let b8:=r7
      some b8) (
      br (i1==(2:Int)) (
       bd (f129 n i1 i2 n3 l4 (1:Int) (32:Int) (2:Int)) fun r9 =>
       let b10:=r9
       some b10) (
       br (i1==(3:Int)) (
        bd (f129 n i1 i2 n3 l4 (0:Int) (0:Int) (4:Int)) fun r11 =>
        let b12:=r11
        some b12) (
        br (i1==(5:Int)) (
         bd (f129 n i1 i2 n3 l4 (0:Int) (0:Int) (0:Int)) fun r13 =>
         let b14:=r13
         some b14) (
         br (i1==(6:Int)) (
          bd (f129 n i1 i2 n3 l4 (0:Int) (32:Int) (2:Int)) fun r15 =>
          let b16:=r15
          br b16 (
           gd ((decide ((0≤(0:Int))∧((0:Int)<(n3:Int))))&&(okAt [(CK.flt .f32)] l4 0)) (
           bd (f130 n (fAt l4 0)) fun r17 =>
           let b18:=r17
           some b18)) (
           some false)) (
          some false))))))) (
    br (i1==(4:Int)) (
     bd (f129 n i1 i2 n3 l4 (0:Int) (0:Int) (1:Int)) fun r19 =>
     let b20:=r19
     some b20) (
     br (i1==(1:Int)) (
      bd (f129 n i1 i2 n3 l4 (0:Int) (0:Int) (5:Int)) fun r21 =>
      let b22:=r21
      some b22) (
      br (i1==(2:Int)) (
       bd (f129 n i1 i2 n3 l4 (1:Int) (32:Int) (2:Int)) fun r23 =>
       let b24:=r23
       some b24) (
       br (i1==(3:Int)) (
        bd (f129 n i1 i2 n3 l4 (0:Int) (0:Int) (4:Int)) fun r25 =>
        let b26:=r25
        some b26) (
        br (i1==(5:Int)) (
         bd (f129 n i1 i2 n3 l4 (0:Int) (0:Int) (0:Int)) fun r27 =>
         let b28:=r27
         some b28) (
         br (i1==(6:Int)) (
          bd (f129 n i1 i2 n3 l4 (0:Int) (32:Int) (2:Int)) fun r29 =>
          let b30:=r29
          br b30 (
           gd ((decide ((0≤(0:Int))∧((0:Int)<(n3:Int))))&&(okAt [(CK.flt .f32)] l4 0)) (
           bd (f130 n (fAt l4 0)) fun r31 =>
           let b32:=r31
           some b32)) (
           some false)) (
          some false)))))))
def f99.P:List Arg:=[qA23]
def f99.A:RAlt (Bool):=.one ⟨[qV15],[none]⟩ sg_b
def f99.F (n:Nat) (v:Int × Int × Nat × List T):=f99 n v.1 v.2.1 v.2.2.1 v.2.2.2
def f99.O (n:Nat):Orc:=orcOf (E:=E) [f129.w,f130.w] [] n
theorem f99.ok:FnS 99 f99.P sg_iil f99.A f99.F:=fnS c99 f99.O
def f99.w:FnW E:=fnW 99 f99.P sg_iil f99.A f99.F f99.ok
def f63.l0 (n:Nat):Nat→Nat→List T→Nat→List T→Int→Int→Option ((Bool) ⊕ (Unit))
 | 0,_,_,_,_,_,_=>none
 | m+1,n1,l2,n3,l4,i5,i6 =>
   br (decide (i6<i5)) (
    gd ((decide ((0≤i6)∧(i6<(n3:Int))))&&(okAt [(CK.int .i64),(CK.int .i64),CK.lst] l4 (((Int.toNat i6) * 3)+0))) (
    let i7:=(iAt l4 (((Int.toNat i6) * 3)+0))
    let i8:=(iAt l4 ((((Int.toNat i6) * 3)+0)+1))
    let n9:=(nAt l4 (((((Int.toNat i6) * 3)+0)+1)+1))
    let l10:=(lAt l4 (((((Int.toNat i6) * 3)+0)+1)+1))
    bd (f99 n i7 i8 n9 l10) fun r11 =>
    let b12:=r11
    br (!b12) (
     some (Sum.inl false)) (
     f63.l0 n m n1 l2 n3 l4 i5 (IntKind.i64.wrap (i6+(1:Int)))))) (
    some (Sum.inr ()))
def f63:Nat→Nat→List T→Option (Bool)
 | 0,_,_=>none
 | n+1,n1,l2 =>
   br (decide ((n1:Int)>(8:Int))) (
    some false) (
    bd (f63.l0 n n n1 l2 n1 l2 (n1:Int) (0:Int)) fun r3 =>
    sm r3 (fun u4 =>
     let b5:=u4
     some b5) (fun u6 =>
     some true))
def f63.l0.P:AS:=⟨[(0,qS35),(8,qS35),(9,qS42),(10,qS42)],0⟩
def f63.l0.A:Alt ((Bool) ⊕ (Unit)):=.or (.one .ret ⟨[(2,qS43)],0⟩ sg_b) (.one (.exit 0) ⟨[(2,.dead)],0⟩ sg)
def f63.l0.F (n m:Nat) (v:Nat × List T × Nat × List T × Int × Int):=f63.l0 n m v.1 v.2.1 v.2.2.1 v.2.2.2.1 v.2.2.2.2.1 v.2.2.2.2.2
def f63.l0.W (n:Nat):LpW:=.of 64 f63.l0.P sg_llii f63.l0.A (f63.l0.F n n)
def f63.P:List Arg:=[qA24]
def f63.A:RAlt (Bool):=.one ⟨[qV15],[none]⟩ sg_b
def f63.F (n:Nat) (v:Nat × List T):=f63 n v.1 v.2
def f63.O (n:Nat):Orc:=orcOf (E:=E) [f99.w] [f63.l0.W n] n
theorem f63.l0.ok:∀ n,LpS 63 c63 0 n (f63.O n):=lpS f63.l0.P sg_llii f63.l0.A f63.l0.F
theorem f63.ok:FnS 63 f63.P sg_l f63.A f63.F:=fnS c63 f63.O [loopAt c63 0] (fun n=>(.cons (f63.l0.ok n) .nil))
def f63.w:FnW E:=fnW 63 f63.P sg_l f63.A f63.F f63.ok
def f64:Nat→Int→Option (Bool)
 | 0,_=>none
 | n+1,i1 =>
   bd (f29 n i1 (-2000:Int) (2000:Int)) fun r2 =>
   let b3:=r2
   some b3
def f64.P:List Arg:=[qA19]
def f64.A:RAlt (Bool):=.one ⟨[qV15],[none]⟩ sg_b
def f64.F (n:Nat) (v:Int):=f64 n v
def f64.O (n:Nat):Orc:=orcOf (E:=E) [f29.w] [] n
theorem f64.ok:FnS 64 f64.P sg_i f64.A f64.F:=fnS c64 f64.O
def f64.w:FnW E:=fnW 64 f64.P sg_i f64.A f64.F f64.ok
def f65:Nat→Nat→Option (Bool)
 | 0,_=>none
 | n+1,x1 =>
   br (fge .f32 x1 0) (
    some (fle .f32 x1 1065353216)) (
    some false)
def f65.P:List Arg:=[qA20]
def f65.A:RAlt (Bool):=.one ⟨[qV15],[none]⟩ sg_b
def f65.F (n:Nat) (v:Nat):=f65 n v
def f65.O (n:Nat):Orc:=orcOf (E:=E) [] [] n
theorem f65.ok:FnS 65 f65.P sg_f f65.A f65.F:=fnS c65 f65.O
def f65.w:FnW E:=fnW 65 f65.P sg_f f65.A f65.F f65.ok
def f25.l0 (n:Nat):Nat→Nat→List T→Nat→List T→Nat→List T→Int→Int→Option ((Bool) ⊕ (Nat × List T × Nat × List T))
 | 0,_,_,_,_,_,_,_,_=>none
 | m+1,n1,l2,n3,l4,n5,l6,i7,i8 =>
   br (decide (i8<i7)) (
    gd ((decide ((0≤i8)∧(i8<(n5:Int))))&&(okAt [CK.lst,(CK.int .i64),(CK.flt .f32),CK.bool,CK.bool] l6 (((Int.toNat i8) * 5)+0))) (
    let n9:=(nAt l6 (((Int.toNat i8) * 5)+0))
    let l10:=(lAt l6 (((Int.toNat i8) * 5)+0))
    let i11:=(iAt l6 ((((Int.toNat i8) * 5)+0)+1))
    let x12:=(fAt l6 (((((Int.toNat i8) * 5)+0)+1)+1))
    let b13:=(bAt l6 ((((((Int.toNat i8) * 5)+0)+1)+1)+1))
    let b14:=(bAt l6 (((((((Int.toNat i8) * 5)+0)+1)+1)+1)+1))
    bd (f63 n n9 l10) fun r15 =>
    let b16:=r15
    br (!b16) (
     some (Sum.inl false)) (
     bd (f64 n i11) fun r17 =>
     let b18:=r17
     br (!b18) (
      some (Sum.inl false)) (
      bd (f65 n x12) fun r19 =>
      let b20:=r19
      br (!b20) (
       some (Sum.inl false)) (
       f25.l0 n m n1 l2 n3 l4 n5 l6 i7 (IntKind.i64.wrap (i8+(1:Int)))))))) (
    some (Sum.inr (n1,l2,n3,l4)))
def f31:Nat→Int→Int→Option (Bool)
 | 0,_,_=>none
 | n+1,i1,i2 =>
   bd (f29 n i1 (0:Int) (IntKind.i64.wrap (i2 - (1:Int)))) fun r3 =>
   let b4:=r3
   some b4
def f31.P:List Arg:=[qA19,qA19]
def f31.A:RAlt (Bool):=.one ⟨[qV15],[none,none]⟩ sg_b
def f31.F (n:Nat) (v:Int × Int):=f31 n v.1 v.2
def f31.O (n:Nat):Orc:=orcOf (E:=E) [f29.w] [] n
theorem f31.ok:FnS 31 f31.P sg_ii f31.A f31.F:=fnS c31 f31.O
def f31.w:FnW E:=fnW 31 f31.P sg_ii f31.A f31.F f31.ok
def f26:Nat→Int→Option (Bool)
 | 0,_=>none
 | n+1,i1 =>
   bd (f29 n i1 (0:Int) (256:Int)) fun r2 =>
   let b3:=r2
   some b3
def f26.P:List Arg:=[qA19]
def f26.A:RAlt (Bool):=.one ⟨[qV15],[none]⟩ sg_b
def f26.F (n:Nat) (v:Int):=f26 n v
def f26.O (n:Nat):Orc:=orcOf (E:=E) [f29.w] [] n
theorem f26.ok:FnS 26 f26.P sg_i f26.A f26.F:=fnS c26 f26.O
def f26.w:FnW E:=fnW 26 f26.P sg_i f26.A f26.F f26.ok
def f66:Nat→Nat→List T→Option (Bool)
 | 0,_,_=>none
 | n+1,n1,l2 =>
   some (decide ((n1:Int)≤(256:Int)))
def f66.P:List Arg:=[qA18]
def f66.A:RAlt (Bool):=.one ⟨[qV15],[none]⟩ sg_b
def f66.F (n:Nat) (v:Nat × List T):=f66 n v.1 v.2
def f66.O (n:Nat):Orc:=orcOf (E:=E) [] [] n
theorem f66.ok:FnS 66 f66.P sg_l f66.A f66.F:=fnS c66 f66.O
def f66.w:FnW E:=fnW 66 f66.P sg_l f66.A f66.F f66.ok
def f25.l1 (n:Nat):Nat→Nat→List T→Nat→List T→Nat→List T→Int→Int→Option ((Bool) ⊕ (Unit))
 | 0,_,_,_,_,_,_,_,_=>none
 | m+1,n1,l2,n3,l4,n5,l6,i7,i8 =>
   br (decide (i8<i7)) (
    gd ((decide ((0≤i8)∧(i8<(n5:Int))))&&(okAt [(CK.int .i64),(CK.int .i64),CK.lst] l6 (((Int.toNat i8) * 3)+0))) (
    let i9:=(iAt l6 (((Int.toNat i8) * 3)+0))
    let i10:=(iAt l6 ((((Int.toNat i8) * 3)+0)+1))
    let n11:=(nAt l6 (((((Int.toNat i8) * 3)+0)+1)+1))
    let l12:=(lAt l6 (((((Int.toNat i8) * 3)+0)+1)+1))
    bd (f31 n i9 (n3:Int)) fun r13 =>
    let b14:=r13
    br (!b14) (
     some (Sum.inl false)) (
     bd (f26 n i10) fun r15 =>
     let b16:=r15
     br (!b16) (
      some (Sum.inl false)) (
      bd (f66 n n11 l12) fun r17 =>
      let b18:=r17
      br (!b18) (
       some (Sum.inl false)) (
       f25.l1 n m n1 l2 n3 l4 n5 l6 i7 (IntKind.i64.wrap (i8+(1:Int)))))))) (
    some (Sum.inr ()))
def f25:Nat→Nat→List T→Nat→List T→Option (Bool)
 | 0,_,_,_,_=>none
 | n+1,n1,l2,n3,l4 =>
   bd (f32 n (n3:Int)) fun r5 =>
   let i6:=r5
   bd (f62 n i6) fun r7 =>
   let b8:=r7
   br (!b8) (
    some false) (
    br (decide ((n1:Int)>(12:Int))) (
     some false) (
     bd (f25.l0 n n n1 l2 n3 l4 n3 l4 (n3:Int) (0:Int)) fun r9 =>
     sm r9 (fun u10 =>
      let b11:=u10
      some b11) (fun u12 =>
      let n13:=u12.1
      let l14:=u12.2.1
      let n15:=u12.2.2.1
      let l16:=u12.2.2.2
      bd (f25.l1 n n n13 l14 n15 l16 n13 l14 (n13:Int) (0:Int)) fun r17 =>
      sm r17 (fun u18 =>
       let b19:=u18
       some b19) (fun u20 =>
       some true))))
def sg_lllii:Sig (Nat × List T × Nat × List T × Nat × List T × Int × Int) where
 pk:=fun v=>[.lst v.1 v.2.1,.lst v.2.2.1 v.2.2.2.1,.lst v.2.2.2.2.1 v.2.2.2.2.2.1,.int v.2.2.2.2.2.2.1,.int v.2.2.2.2.2.2.2]
 up:=fun ls=>match ls with
  | [.lst a0 a1,.lst a2 a3,.lst a4 a5,.int a6,.int a7]=>some (a0,a1,a2,a3,a4,a5,a6,a7)
  | _=>none
 ok:=by intro _ _ h;split at h <;>cases h;rfl
def f25.l0.P:AS:=⟨[(1,.box [.sl .shr [.leaf,.leaf,.sl .shr [.leaf]],.sl .shr [.sl .shr [.leaf,.leaf,.sl .shr [.leaf]],.leaf,.leaf,.leaf,.leaf]] [.lst 0 [],.lst 0 []] [] 0),(20,qS32),(21,qS42),(22,qS42)],0⟩
def f25.l0.A:Alt ((Bool) ⊕ (Nat × List T × Nat × List T)):=.or (.one .ret ⟨[(1,.dead),(2,qS43),(69,.dead)],0⟩ sg_b) (.one (.exit 0) ⟨[(1,.box [.sl .shr [.leaf,.leaf,.sl .shr [.leaf]],.sl .shr [.sl .shr [.leaf,.leaf,.sl .shr [.leaf]],.leaf,.leaf,.leaf,.leaf]] [.lst 0 [],.lst 0 []] [] 0),(2,.dead),(69,.dead)],0⟩ sg_ll)
def f25.l0.F (n m:Nat) (v:Nat × List T × Nat × List T × Nat × List T × Int × Int):=f25.l0 n m v.1 v.2.1 v.2.2.1 v.2.2.2.1 v.2.2.2.2.1 v.2.2.2.2.2.1 v.2.2.2.2.2.2.1 v.2.2.2.2.2.2.2
def f25.l0.W (n:Nat):LpW:=.of 64 f25.l0.P sg_lllii f25.l0.A (f25.l0.F n n)
def f25.l1.P:AS:=⟨[(1,.box [.sl .shr [.leaf,.leaf,.sl .shr [.leaf]],.sl .shr [.sl .shr [.leaf,.leaf,.sl .shr [.leaf]],.leaf,.leaf,.leaf,.leaf]] [.lst 0 [],.lst 0 []] [] 0),(44,qS35),(45,qS42),(46,qS42)],0⟩
def f25.l1.A:Alt ((Bool) ⊕ (Unit)):=.or (.one .ret ⟨[(2,qS43)],0⟩ sg_b) (.one (.exit 2) ⟨[(2,.dead)],0⟩ sg)
def f25.l1.F (n m:Nat) (v:Nat × List T × Nat × List T × Nat × List T × Int × Int):=f25.l1 n m v.1 v.2.1 v.2.2.1 v.2.2.2.1 v.2.2.2.2.1 v.2.2.2.2.2.1 v.2.2.2.2.2.2.1 v.2.2.2.2.2.2.2
def f25.l1.W (n:Nat):LpW:=.of 160 f25.l1.P sg_lllii f25.l1.A (f25.l1.F n n)
def f25.P:List Arg:=[qA27]
def f25.A:RAlt (Bool):=.one ⟨[qV15],[none]⟩ sg_b
def f25.F (n:Nat) (v:Nat × List T × Nat × List T):=f25 n v.1 v.2.1 v.2.2.1 v.2.2.2
def f25.O (n:Nat):Orc:=orcOf (E:=E) [f32.w,f62.w,f63.w,f64.w,f65.w,f31.w,f26.w,f66.w] [f25.l0.W n,f25.l1.W n] n
theorem f25.l0.ok:∀ n,LpS 25 c25 0 n (f25.O n):=lpS f25.l0.P sg_lllii f25.l0.A f25.l0.F
theorem f25.l1.ok:∀ n,LpS 25 c25 1 n (f25.O n):=lpS f25.l1.P sg_lllii f25.l1.A f25.l1.F
theorem f25.ok:FnS 25 f25.P sg_ll f25.A f25.F:=fnS c25 f25.O [loopAt c25 0,loopAt c25 1] (fun n=>(.cons (f25.l0.ok n) (.cons (f25.l1.ok n) .nil)))
def f25.w:FnW E:=fnW 25 f25.P sg_ll f25.A f25.F f25.ok
def f70:Nat→Int→Option (Nat × List T)
 | 0,_=>none
 | n+1,i1 =>
   gd (decide ((0≤i1)∧(i1≤(2147483648:Int)))) (
   some ((Int.toNat i1),(reps (Int.toNat i1) [(T.flt .f32 0)])))
def f70.P:List Arg:=[qA19]
def f70.A:RAlt (Nat × List T):=.one ⟨[qV13],[none]⟩ sg_l
def f70.F (n:Nat) (v:Int):=f70 n v
def f70.O (n:Nat):Orc:=orcOf (E:=E) [] [] n
theorem f70.ok:FnS 70 f70.P sg_i f70.A f70.F:=fnS c70 f70.O
def f70.w:FnW E:=fnW 70 f70.P sg_i f70.A f70.F f70.ok
def f101:Nat→Int→Int→Nat→List T→Option (Nat × List T)
 | 0,_,_,_,_=>none
 | n+1,i1,i2,n3,l4 =>
   br (i1==(1:Int)) (
    bd (f70 n (2:Int)) fun r5 =>
    let n6:=r5.1
    let l7:=r5.2
    some (n6,l7)) (
    br (i1==(2:Int)) (
     bd (f70 n i2) fun r8 =>
     let n9:=r8.1
     let l10:=r8.2
     some (n9,l10)) (
     br (i1==(3:Int)) (
      bd (f70 n (1:Int)) fun r11 =>
      let n12:=r11.1
      let l13:=r11.2
      some (n12,l13)) (
      br (i1==(6:Int)) (
       bd (f70 n i2) fun r14 =>
       let n15:=r14.1
       let l16:=r14.2
       gd (Nat.ble (1+n15) 2147483648) (
       some ((1+n15),((setN (reps 1 [(T.flt .f32 0)]) 0 [(T.flt .f32 1065353216)])++l16)))) (
       some (0,[])))))
def f101.P:List Arg:=[qA23]
def f101.A:RAlt (Nat × List T):=.one ⟨[qV13],[none]⟩ sg_l
def f101.F (n:Nat) (v:Int × Int × Nat × List T):=f101 n v.1 v.2.1 v.2.2.1 v.2.2.2
def f101.O (n:Nat):Orc:=orcOf (E:=E) [f70.w] [] n
theorem f101.ok:FnS 101 f101.P sg_iil f101.A f101.F:=fnS c101 f101.O
def f101.w:FnW E:=fnW 101 f101.P sg_iil f101.A f101.F f101.ok
def f68.l0 (n:Nat):Nat→Nat→List T→Nat→List T→Nat→List T→Int→Int→Option (Nat × List T)
 | 0,_,_,_,_,_,_,_,_=>none
 | m+1,n1,l2,n3,l4,n5,l6,i7,i8 =>
   br (decide (i8<i7)) (
    gd ((decide ((0≤i8)∧(i8<(n5:Int))))&&(okAt [(CK.int .i64),(CK.int .i64),CK.lst] l6 (((Int.toNat i8) * 3)+0))) (
    let i9:=(iAt l6 (((Int.toNat i8) * 3)+0))
    let i10:=(iAt l6 ((((Int.toNat i8) * 3)+0)+1))
    let n11:=(nAt l6 (((((Int.toNat i8) * 3)+0)+1)+1))
    let l12:=(lAt l6 (((((Int.toNat i8) * 3)+0)+1)+1))
    bd (f101 n i9 i10 n11 l12) fun r13 =>
    let n14:=r13.1
    let l15:=r13.2
    gd (Nat.ble (n3+1) 2147483648) (
    let n16:=(n3+1)
    let l17:=(l4++(setN (reps 1 [(T.lst 0 [])]) 0 [(T.lst n14 l15)]))
    f68.l0 n m n1 l2 n16 l17 n5 l6 i7 (IntKind.i64.wrap (i8+(1:Int)))))) (
    some (n3,l4))
def f68:Nat→Nat→List T→Option (Nat × List T)
 | 0,_,_=>none
 | n+1,n1,l2 =>
   bd (f68.l0 n n n1 l2 0 [] n1 l2 (n1:Int) (0:Int)) fun r3 =>
   let n4:=r3.1
   let l5:=r3.2
   some (n4,l5)
def f68.l0.P:AS:=⟨[(0,qS35),(3,qS39),(6,qS35),(7,qS42),(8,qS42)],0⟩
def f68.l0.A:Alt (Nat × List T):=.one (.exit 0) ⟨[(3,qS39)],0⟩ sg_l
def f68.l0.F (n m:Nat) (v:Nat × List T × Nat × List T × Nat × List T × Int × Int):=f68.l0 n m v.1 v.2.1 v.2.2.1 v.2.2.2.1 v.2.2.2.2.1 v.2.2.2.2.2.1 v.2.2.2.2.2.2.1 v.2.2.2.2.2.2.2
def f68.l0.W (n:Nat):LpW:=.of 48 f68.l0.P sg_lllii f68.l0.A (f68.l0.F n n)
def f68.P:List Arg:=[qA24]
def f68.A:RAlt (Nat × List T):=.one ⟨[qV11],[none]⟩ sg_l
def f68.F (n:Nat) (v:Nat × List T):=f68 n v.1 v.2
def f68.O (n:Nat):Orc:=orcOf (E:=E) [f101.w] [f68.l0.W n] n
theorem f68.l0.ok:∀ n,LpS 68 c68 0 n (f68.O n):=lpS f68.l0.P sg_lllii f68.l0.A f68.l0.F
theorem f68.ok:FnS 68 f68.P sg_l f68.A f68.F:=fnS c68 f68.O [loopAt c68 0] (fun n=>(.cons (f68.l0.ok n) .nil))
def f68.w:FnW E:=fnW 68 f68.P sg_l f68.A f68.F f68.ok
def f69.l1 (n:Nat):Nat→Int→Int→Int→Nat→List T→Nat→List T→Nat→List T→Int→Int→Nat→List T→Nat→List T→Int→Int→Nat→List T→Int→Int→Option (Int × Int × Int × Nat × List T × Nat × List T × Nat × List T × Nat × List T × Int × Int)
 | 0,_,_,_,_,_,_,_,_,_,_,_,_,_,_,_,_,_,_,_,_,_=>none
 | m+1,i1,i2,i3,n4,l5,n6,l7,n8,l9,i10,i11,n12,l13,n14,l15,i16,i17,n18,l19,i20,i21 =>
   br (decide (i21<i20)) (
    gd ((decide ((0≤i21)∧(i21<(n18:Int))))&&(okAt [(CK.flt .f32)] l19 (Int.toNat i21))) (
    let x22:=(fAt l19 (Int.toNat i21))
    let i23:=(IntKind.i64.wrap ((IntKind.i64.wrap (i11+i21)) - i2))
    bd (f29 n i23 (0:Int) (IntKind.i64.wrap (i3 - (1:Int)))) fun r24 =>
    let b25:=r24
    br b25 (
     gd (decide ((0≤i23)∧(i23<(n8:Int)))) (
     gd (okAt [(CK.flt .f32)] l9 (Int.toNat i23)) (
     gd (decide ((0≤i23)∧(i23<(n8:Int)))) (
     gd (Nat.ble ((Int.toNat i23)+1) (List.length l9)) (
     let l26:=(setN l9 (Int.toNat i23) [(T.flt .f32 (fadd .f32 (fAt l9 (Int.toNat i23)) x22))])
     f69.l1 n m i1 i2 i3 n4 l5 n6 l7 n8 l26 i10 i11 n12 l13 n14 l15 i16 i17 n18 l19 i20 (IntKind.i64.wrap (i21+(1:Int)))))))) (
     f69.l1 n m i1 i2 i3 n4 l5 n6 l7 n8 l9 i10 i11 n12 l13 n14 l15 i16 i17 n18 l19 i20 (IntKind.i64.wrap (i21+(1:Int)))))) (
    some (i1,i2,i3,n4,l5,n6,l7,n8,l9,n14,l15,i16,i17))
termination_by structural x=>x
def f69.l0 (n:Nat):Nat→Int→Int→Int→Nat→List T→Nat→List T→Nat→List T→Nat→List T→Int→Int→Option (Nat × List T)
 | 0,_,_,_,_,_,_,_,_,_,_,_,_,_=>none
 | m+1,i1,i2,i3,n4,l5,n6,l7,n8,l9,n10,l11,i12,i13 =>
   br (decide (i13<i12)) (
    gd ((decide ((0≤i13)∧(i13<(n10:Int))))&&(okAt [(CK.int .i64),(CK.int .i64),CK.lst] l11 (((Int.toNat i13) * 3)+0))) (
    let i14:=(iAt l11 (((Int.toNat i13) * 3)+0))
    let i15:=(iAt l11 ((((Int.toNat i13) * 3)+0)+1))
    let n16:=(nAt l11 (((((Int.toNat i13) * 3)+0)+1)+1))
    let l17:=(lAt l11 (((((Int.toNat i13) * 3)+0)+1)+1))
    br (i14 != i1) (
     f69.l0 n m i1 i2 i3 n4 l5 n6 l7 n8 l9 n10 l11 i12 (IntKind.i64.wrap (i13+(1:Int)))) (
     bd (f69.l1 n n i1 i2 i3 n4 l5 n6 l7 n8 l9 i14 i15 n16 l17 n10 l11 i12 i13 n16 l17 (n16:Int) (0:Int)) fun r18 =>
     let i19:=r18.1
     let i20:=r18.2.1
     let i21:=r18.2.2.1
     let n22:=r18.2.2.2.1
     let l23:=r18.2.2.2.2.1
     let n24:=r18.2.2.2.2.2.1
     let l25:=r18.2.2.2.2.2.2.1
     let n26:=r18.2.2.2.2.2.2.2.1
     let l27:=r18.2.2.2.2.2.2.2.2.1
     let n28:=r18.2.2.2.2.2.2.2.2.2.1
     let l29:=r18.2.2.2.2.2.2.2.2.2.2.1
     let i30:=r18.2.2.2.2.2.2.2.2.2.2.2.1
     let i31:=r18.2.2.2.2.2.2.2.2.2.2.2.2
     f69.l0 n m i19 i20 i21 n22 l23 n24 l25 n26 l27 n28 l29 i30 (IntKind.i64.wrap (i31+(1:Int)))))) (
    some (n8,l9))
termination_by structural x=>x
def f69:Nat→Nat→List T→Nat→List T→Int→Int→Int→Option (Nat × List T)
 | 0,_,_,_,_,_,_,_=>none
 | n+1,n1,l2,n3,l4,i5,i6,i7 =>
   bd (f70 n i7) fun r8 =>
   let n9:=r8.1
   let l10:=r8.2
   bd (f69.l0 n n i5 i6 i7 n1 l2 n3 l4 n9 l10 n1 l2 (n1:Int) (0:Int)) fun r11 =>
   let n12:=r11.1
   let l13:=r11.2
   some (n12,l13)
def sg_iiillliilliilii:Sig (Int × Int × Int × Nat × List T × Nat × List T × Nat × List T × Int × Int × Nat × List T × Nat × List T × Int × Int × Nat × List T × Int × Int) where
 pk:=fun v=>[.int v.1,.int v.2.1,.int v.2.2.1,.lst v.2.2.2.1 v.2.2.2.2.1,.lst v.2.2.2.2.2.1 v.2.2.2.2.2.2.1,.lst v.2.2.2.2.2.2.2.1 v.2.2.2.2.2.2.2.2.1,.int v.2.2.2.2.2.2.2.2.2.1,.int v.2.2.2.2.2.2.2.2.2.2.1,.lst v.2.2.2.2.2.2.2.2.2.2.2.1 v.2.2.2.2.2.2.2.2.2.2.2.2.1,.lst v.2.2.2.2.2.2.2.2.2.2.2.2.2.1 v.2.2.2.2.2.2.2.2.2.2.2.2.2.2.1,.int v.2.2.2.2.2.2.2.2.2.2.2.2.2.2.2.1,.int v.2.2.2.2.2.2.2.2.2.2.2.2.2.2.2.2.1,.lst v.2.2.2.2.2.2.2.2.2.2.2.2.2.2.2.2.2.1 v.2.2.2.2.2.2.2.2.2.2.2.2.2.2.2.2.2.2.1,.int v.2.2.2.2.2.2.2.2.2.2.2.2.2.2.2.2.2.2.2.1,.int v.2.2.2.2.2.2.2.2.2.2.2.2.2.2.2.2.2.2.2.2]
 up:=fun ls=>match ls with
  | [.int a0,.int a1,.int a2,.lst a3 a4,.lst a5 a6,.lst a7 a8,.int a9,.int a10,.lst a11 a12,.lst a13 a14,.int a15,.int a16,.lst a17 a18,.int a19,.int a20]=>some (a0,a1,a2,a3,a4,a5,a6,a7,a8,a9,a10,a11,a12,a13,a14,a15,a16,a17,a18,a19,a20)
  | _=>none
 ok:=by intro _ _ h;split at h <;>cases h;rfl
def sg_iiillllii:Sig (Int × Int × Int × Nat × List T × Nat × List T × Nat × List T × Nat × List T × Int × Int) where
 pk:=fun v=>[.int v.1,.int v.2.1,.int v.2.2.1,.lst v.2.2.2.1 v.2.2.2.2.1,.lst v.2.2.2.2.2.1 v.2.2.2.2.2.2.1,.lst v.2.2.2.2.2.2.2.1 v.2.2.2.2.2.2.2.2.1,.lst v.2.2.2.2.2.2.2.2.2.1 v.2.2.2.2.2.2.2.2.2.2.1,.int v.2.2.2.2.2.2.2.2.2.2.2.1,.int v.2.2.2.2.2.2.2.2.2.2.2.2]
 up:=fun ls=>match ls with
  | [.int a0,.int a1,.int a2,.lst a3 a4,.lst a5 a6,.lst a7 a8,.lst a9 a10,.int a11,.int a12]=>some (a0,a1,a2,a3,a4,a5,a6,a7,a8,a9,a10,a11,a12)
  | _=>none
 ok:=by intro _ _ h;split at h <;>cases h;rfl
def f69.l1.P:AS:=⟨[(1,qS42),(2,qS42),(3,qS42),(4,.box [.sl .shr [.leaf,.leaf,.sl .shr [.leaf]],.sl .shr [.sl .shr [.leaf,.leaf,.sl .shr [.leaf]],.leaf,.leaf,.leaf,.leaf]] [.lst 0 [],.lst 0 []] [] 0),(9,qS41),(11,.box [.leaf,.leaf,.sl .shr [.leaf]] [.int .i64 0,.int .i64 0,.lst 0 []] [] 0),(18,qS35),(19,qS42),(20,qS42),(29,qS40),(30,qS42),(31,qS42)],0⟩
def f69.l1.A:Alt (Int × Int × Int × Nat × List T × Nat × List T × Nat × List T × Nat × List T × Int × Int):=.one (.exit 2) ⟨[(1,qS42),(2,qS42),(3,qS42),(4,.box [.sl .shr [.leaf,.leaf,.sl .shr [.leaf]],.sl .shr [.sl .shr [.leaf,.leaf,.sl .shr [.leaf]],.leaf,.leaf,.leaf,.leaf]] [.lst 0 [],.lst 0 []] [] 0),(9,qS41),(18,qS35),(19,qS42),(20,qS42),(53,.dead),(54,.dead)],0⟩ sg_iiillllii
def f69.l1.F (n m:Nat) (v:Int × Int × Int × Nat × List T × Nat × List T × Nat × List T × Int × Int × Nat × List T × Nat × List T × Int × Int × Nat × List T × Int × Int):=f69.l1 n m v.1 v.2.1 v.2.2.1 v.2.2.2.1 v.2.2.2.2.1 v.2.2.2.2.2.1 v.2.2.2.2.2.2.1 v.2.2.2.2.2.2.2.1 v.2.2.2.2.2.2.2.2.1 v.2.2.2.2.2.2.2.2.2.1 v.2.2.2.2.2.2.2.2.2.2.1 v.2.2.2.2.2.2.2.2.2.2.2.1 v.2.2.2.2.2.2.2.2.2.2.2.2.1 v.2.2.2.2.2.2.2.2.2.2.2.2.2.1 v.2.2.2.2.2.2.2.2.2.2.2.2.2.2.1 v.2.2.2.2.2.2.2.2.2.2.2.2.2.2.2.1 v.2.2.2.2.2.2.2.2.2.2.2.2.2.2.2.2.1 v.2.2.2.2.2.2.2.2.2.2.2.2.2.2.2.2.2.1 v.2.2.2.2.2.2.2.2.2.2.2.2.2.2.2.2.2.2.1 v.2.2.2.2.2.2.2.2.2.2.2.2.2.2.2.2.2.2.2.1 v.2.2.2.2.2.2.2.2.2.2.2.2.2.2.2.2.2.2.2.2
def f69.l1.W (n:Nat):LpW:=.of 112 f69.l1.P sg_iiillliilliilii f69.l1.A (f69.l1.F n n)
def f69.l0.P:AS:=⟨[(1,qS42),(2,qS42),(3,qS42),(4,.box [.sl .shr [.leaf,.leaf,.sl .shr [.leaf]],.sl .shr [.sl .shr [.leaf,.leaf,.sl .shr [.leaf]],.leaf,.leaf,.leaf,.leaf]] [.lst 0 [],.lst 0 []] [] 0),(9,qS41),(18,qS35),(19,qS42),(20,qS42)],0⟩
def f69.l0.A:Alt (Nat × List T):=.one (.exit 0) ⟨[(9,qS41)],0⟩ sg_l
def f69.l0.F (n m:Nat) (v:Int × Int × Int × Nat × List T × Nat × List T × Nat × List T × Nat × List T × Int × Int):=f69.l0 n m v.1 v.2.1 v.2.2.1 v.2.2.2.1 v.2.2.2.2.1 v.2.2.2.2.2.1 v.2.2.2.2.2.2.1 v.2.2.2.2.2.2.2.1 v.2.2.2.2.2.2.2.2.1 v.2.2.2.2.2.2.2.2.2.1 v.2.2.2.2.2.2.2.2.2.2.1 v.2.2.2.2.2.2.2.2.2.2.2.1 v.2.2.2.2.2.2.2.2.2.2.2.2
def f69.l0.W (n:Nat):LpW:=.of 48 f69.l0.P sg_iiillllii f69.l0.A (f69.l0.F n n)
def f69.P:List Arg:=[qA27,qA19,qA19,qA19]
def f69.A:RAlt (Nat × List T):=.one ⟨[qV13],[none,none,none,none]⟩ sg_l
def f69.F (n:Nat) (v:Nat × List T × Nat × List T × Int × Int × Int):=f69 n v.1 v.2.1 v.2.2.1 v.2.2.2.1 v.2.2.2.2.1 v.2.2.2.2.2.1 v.2.2.2.2.2.2
def f69.O (n:Nat):Orc:=orcOf (E:=E) [f29.w,f70.w] [f69.l1.W n,f69.l0.W n] n
theorem f69.l1.ok:∀ n,LpS 69 c69 1 n (f69.O n):=lpS f69.l1.P sg_iiillliilliilii f69.l1.A f69.l1.F
theorem f69.l0.ok:∀ n,LpS 69 c69 0 n (f69.O n):=lpS f69.l0.P sg_iiillllii f69.l0.A f69.l0.F [loopAt c69 1] (fun n=>(.cons (f69.l1.ok n) .nil))
theorem f69.ok:FnS 69 f69.P sg_lliii f69.A f69.F:=fnS c69 f69.O [loopAt c69 0] (fun n=>(.cons (f69.l0.ok n) .nil))
def f69.w:FnW E:=fnW 69 f69.P sg_lliii f69.A f69.F f69.ok
def f34:Nat→Nat→List T→Option (Nat × List T)
 | 0,_,_=>none
 | n+1,n1,l2 =>
   gd (Nat.ble (0+n1) 2147483648) (
   some ((0+n1),((reps 0 [(T.flt .f32 0)])++l2)))
def f34.P:List Arg:=[qA18]
def f34.A:RAlt (Nat × List T):=.one ⟨[qV13],[none]⟩ sg_l
def f34.F (n:Nat) (v:Nat × List T):=f34 n v.1 v.2
def f34.O (n:Nat):Orc:=orcOf (E:=E) [] [] n
theorem f34.ok:FnS 34 f34.P sg_l f34.A f34.F:=fnS c34 f34.O
def f34.w:FnW E:=fnW 34 f34.P sg_l f34.A f34.F f34.ok
def f131.l0 (n:Nat):Nat→Nat→List T→Nat→Nat→List T→Nat→List T→Int→Int→Option (Nat × List T)
 | 0,_,_,_,_,_,_,_,_,_=>none
 | m+1,n1,l2,x3,n4,l5,n6,l7,i8,i9 =>
   br (decide (i9<i8)) (
    gd ((decide ((0≤i9)∧(i9<(n6:Int))))&&(okAt [(CK.flt .f32)] l7 (Int.toNat i9))) (
    let x10:=(fAt l7 (Int.toNat i9))
    gd (Nat.ble (n4+1) 2147483648) (
    let n11:=(n4+1)
    let l12:=(l5++(setN (reps 1 [(T.flt .f32 0)]) 0 [(T.flt .f32 (fmul .f32 x10 x3))]))
    f131.l0 n m n1 l2 x3 n11 l12 n6 l7 i8 (IntKind.i64.wrap (i9+(1:Int)))))) (
    some (n4,l5))
def f131:Nat→Nat→List T→Nat→Option (Nat × List T)
 | 0,_,_,_=>none
 | n+1,n1,l2,x3 =>
   bd (f131.l0 n n n1 l2 x3 0 [] n1 l2 (n1:Int) (0:Int)) fun r4 =>
   let n5:=r4.1
   let l6:=r4.2
   some (n5,l6)
def sg_lfllii:Sig (Nat × List T × Nat × Nat × List T × Nat × List T × Int × Int) where
 pk:=fun v=>[.lst v.1 v.2.1,.flt v.2.2.1,.lst v.2.2.2.1 v.2.2.2.2.1,.lst v.2.2.2.2.2.1 v.2.2.2.2.2.2.1,.int v.2.2.2.2.2.2.2.1,.int v.2.2.2.2.2.2.2.2]
 up:=fun ls=>match ls with
  | [.lst a0 a1,.flt a2,.lst a3 a4,.lst a5 a6,.int a7,.int a8]=>some (a0,a1,a2,a3,a4,a5,a6,a7,a8)
  | _=>none
 ok:=by intro _ _ h;split at h <;>cases h;rfl
def f131.l0.P:AS:=⟨[(0,qS40),(1,qS44),(5,qS41),(8,qS40),(9,qS42),(10,qS42)],0⟩
def f131.l0.A:Alt (Nat × List T):=.one (.exit 0) ⟨[(5,qS41)],0⟩ sg_l
def f131.l0.F (n m:Nat) (v:Nat × List T × Nat × Nat × List T × Nat × List T × Int × Int):=f131.l0 n m v.1 v.2.1 v.2.2.1 v.2.2.2.1 v.2.2.2.2.1 v.2.2.2.2.2.1 v.2.2.2.2.2.2.1 v.2.2.2.2.2.2.2.1 v.2.2.2.2.2.2.2.2
def f131.l0.W (n:Nat):LpW:=.of 48 f131.l0.P sg_lfllii f131.l0.A (f131.l0.F n n)
def f131.P:List Arg:=[qA18,qA20]
def f131.A:RAlt (Nat × List T):=.one ⟨[qV13],[none,none]⟩ sg_l
def f131.F (n:Nat) (v:Nat × List T × Nat):=f131 n v.1 v.2.1 v.2.2
def f131.O (n:Nat):Orc:=orcOf (E:=E) [] [f131.l0.W n] n
theorem f131.l0.ok:∀ n,LpS 131 c131 0 n (f131.O n):=lpS f131.l0.P sg_lfllii f131.l0.A f131.l0.F
theorem f131.ok:FnS 131 f131.P sg_lf f131.A f131.F:=fnS c131 f131.O [loopAt c131 0] (fun n=>(.cons (f131.l0.ok n) .nil))
def f131.w:FnW E:=fnW 131 f131.P sg_lf f131.A f131.F f131.ok
def f162:Nat→Nat→Option (Bool)
 | 0,_=>none
 | n+1,x1 =>
   br (fne .f32 x1 0) (
    br (flt .f32 x1 8388608) (
     some (fgt .f32 x1 2155872256)) (
     some false)) (
    some false)
def f162.P:List Arg:=[qA20]
def f162.A:RAlt (Bool):=.one ⟨[qV15],[none]⟩ sg_b
def f162.F (n:Nat) (v:Nat):=f162 n v
def f162.O (n:Nat):Orc:=orcOf (E:=E) [] [] n
theorem f162.ok:FnS 162 f162.P sg_f f162.A f162.F:=fnS c162 f162.O
def f162.w:FnW E:=fnW 162 f162.P sg_f f162.A f162.F f162.ok
def f134:Nat→Nat→Option (Nat)
 | 0,_=>none
 | n+1,x1 =>
   bd (f162 n x1) fun r2 =>
   let b3:=r2
   br (!b3) (
    some x1) (
    bd ((fltToFlt .f32 x1 .f64)) fun y4 =>
    bd (xCopysign n 0 y4) fun r5 =>
    let x6:=r5
    bd ((fltToFlt .f64 x6 .f32)) fun y7 =>
    some y7)
def f134.P:List Arg:=[qA20]
def f134.A:RAlt (Nat):=.one ⟨[qV16],[none]⟩ sg_f
def f134.F (n:Nat) (v:Nat):=f134 n v
def f134.O (n:Nat):Orc:=orcOf (E:=E) [x163.w,f162.w] [] n
theorem f134.ok:FnS 134 f134.P sg_f f134.A f134.F:=fnS c134 f134.O
def f134.w:FnW E:=fnW 134 f134.P sg_f f134.A f134.F f134.ok
def f173:Nat→Nat→Bool→Option (Nat)
 | 0,_,_=>none
 | n+1,x1,b2 =>
   br b2 (
    bd (f134 n x1) fun r3 =>
    let x4:=r3
    some x4) (
    some x1)
def f173.P:List Arg:=[qA20,qA21]
def f173.A:RAlt (Nat):=.one ⟨[qV16],[none,none]⟩ sg_f
def f173.F (n:Nat) (v:Nat × Bool):=f173 n v.1 v.2
def f173.O (n:Nat):Orc:=orcOf (E:=E) [f134.w] [] n
theorem f173.ok:FnS 173 f173.P sg_fb f173.A f173.F:=fnS c173 f173.O
def f173.w:FnW E:=fnW 173 f173.P sg_fb f173.A f173.F f173.ok
def f161:Nat→Nat→Nat→Nat→Nat→Nat→Int→Bool→Nat→Nat→Nat→Nat→Nat→Option (Nat × Nat × Nat × Nat × Nat)
 | 0,_,_,_,_,_,_,_,_,_,_,_,_=>none
 | n+1,x1,x2,x3,x4,x5,i6,b7,x8,x9,x10,x11,x12 =>
   br (i6==(0:Int)) (
    let x13:=(fsub .f32 (fsub .f32 (fadd .f32 (fadd .f32 (fmul .f32 x1 x12) (fmul .f32 x2 x8)) (fmul .f32 x3 x9)) (fmul .f32 x4 x10)) (fmul .f32 x5 x11))
    bd (f173 n x13 b7) fun r14 =>
    let x15:=r14
    bd (f173 n x12 b7) fun r16 =>
    let x17:=r16
    bd (f173 n x8 b7) fun r18 =>
    let x19:=r18
    bd (f173 n x15 b7) fun r20 =>
    let x21:=r20
    bd (f173 n x10 b7) fun r22 =>
    let x23:=r22
    some (x15,x17,x19,x21,x23)) (
    br (i6==(1:Int)) (
     bd (f173 n (fadd .f32 (fmul .f32 x1 x12) x8) b7) fun r24 =>
     let x25:=r24
     let x26:=(fadd .f32 (fsub .f32 (fmul .f32 x2 x12) (fmul .f32 x4 x25)) x9)
     let x27:=(fsub .f32 (fmul .f32 x3 x12) (fmul .f32 x5 x25))
     bd (f173 n x26 b7) fun r28 =>
     let x29:=r28
     bd (f173 n x27 b7) fun r30 =>
     let x31:=r30
     bd (f173 n 0 b7) fun r32 =>
     let x33:=r32
     bd (f173 n 0 b7) fun r34 =>
     let x35:=r34
     some (x25,x29,x31,x33,x35)) (
     bd (f173 n (fsub .f32 (fsub .f32 x12 (fmul .f32 x4 x8)) (fmul .f32 x5 x9)) b7) fun r36 =>
     let x37:=r36
     bd (f173 n (fadd .f32 (fadd .f32 (fmul .f32 x1 x37) (fmul .f32 x2 x8)) (fmul .f32 x3 x9)) b7) fun r38 =>
     let x39:=r38
     bd (f173 n x37 b7) fun r40 =>
     let x41:=r40
     bd (f173 n x8 b7) fun r42 =>
     let x43:=r42
     bd (f173 n 0 b7) fun r44 =>
     let x45:=r44
     bd (f173 n 0 b7) fun r46 =>
     let x47:=r46
     some (x39,x41,x43,x45,x47)))
def f161.P:List Arg:=[qA30,qA19,qA21,qA29,qA20]
def f161.A:RAlt (Nat × Nat × Nat × Nat × Nat):=.one ⟨[qV16,qV6],[none,none,none,none,none]⟩ sg_fffff
def f161.F (n:Nat) (v:Nat × Nat × Nat × Nat × Nat × Int × Bool × Nat × Nat × Nat × Nat × Nat):=f161 n v.1 v.2.1 v.2.2.1 v.2.2.2.1 v.2.2.2.2.1 v.2.2.2.2.2.1 v.2.2.2.2.2.2.1 v.2.2.2.2.2.2.2.1 v.2.2.2.2.2.2.2.2.1 v.2.2.2.2.2.2.2.2.2.1 v.2.2.2.2.2.2.2.2.2.2.1 v.2.2.2.2.2.2.2.2.2.2.2
def f161.O (n:Nat):Orc:=orcOf (E:=E) [f173.w] [] n
theorem f161.ok:FnS 161 f161.P sg_fffffibfffff f161.A f161.F:=fnS c161 f161.O
def f161.w:FnW E:=fnW 161 f161.P sg_fffffibfffff f161.A f161.F f161.ok
def f132.l0 (n:Nat):Nat→Int→Bool→Nat→List T→Nat→Nat→Nat→Nat→Nat→Nat→Nat→Nat→Nat→Nat→Nat→Nat→Nat→Nat→List T→Nat→List T→Int→Int→Option (Nat × Nat × Nat × Nat × Nat × Nat × Nat × Nat × Nat × List T)
 | 0,_,_,_,_,_,_,_,_,_,_,_,_,_,_,_,_,_,_,_,_,_,_,_=>none
 | m+1,i1,b2,n3,l4,x5,x6,x7,x8,x9,x10,x11,x12,x13,x14,x15,x16,x17,n18,l19,n20,l21,i22,i23 =>
   br (decide (i23<i22)) (
    gd ((decide ((0≤i23)∧(i23<(n20:Int))))&&(okAt [(CK.flt .f32)] l21 (Int.toNat i23))) (
    let x24:=(fAt l21 (Int.toNat i23))
    bd (f161 n x5 x6 x7 x8 x9 i1 b2 x10 x11 x12 x13 x24) fun r25 =>
    let x26:=r25.1
    let x27:=r25.2.1
    let x28:=r25.2.2.1
    let x29:=r25.2.2.2.1
    let x30:=r25.2.2.2.2
    gd (Nat.ble (n18+1) 2147483648) (
    let n31:=(n18+1)
    let l32:=(l19++(setN (reps 1 [(T.flt .f32 0)]) 0 [(T.flt .f32 x26)]))
    f132.l0 n m i1 b2 n3 l4 x5 x6 x7 x8 x9 x27 x28 x29 x30 x14 x15 x16 x17 n31 l32 n20 l21 i22 (IntKind.i64.wrap (i23+(1:Int)))))) (
    some (x10,x11,x12,x13,x14,x15,x16,x17,n18,l19))
termination_by structural x=>x
def f132:Nat→Nat→Nat→Nat→Nat→Nat→Int→Bool→Nat→Nat→Nat→Nat→Nat→List T→Option (Nat × List T × Nat × Nat × Nat × Nat)
 | 0,_,_,_,_,_,_,_,_,_,_,_,_,_=>none
 | n+1,x1,x2,x3,x4,x5,i6,b7,x8,x9,x10,x11,n12,l13 =>
   bd (f132.l0 n n i6 b7 n12 l13 x1 x2 x3 x4 x5 x8 x9 x10 x11 0 0 0 0 0 [] n12 l13 (n12:Int) (0:Int)) fun r14 =>
   let x15:=r14.1
   let x16:=r14.2.1
   let x17:=r14.2.2.1
   let x18:=r14.2.2.2.1
   let n23:=r14.2.2.2.2.2.2.2.2.1
   let l24:=r14.2.2.2.2.2.2.2.2.2
   some (n23,l24,x15,x16,x17,x18)
def sg_iblfffffffffffffllii:Sig (Int × Bool × Nat × List T × Nat × Nat × Nat × Nat × Nat × Nat × Nat × Nat × Nat × Nat × Nat × Nat × Nat × Nat × List T × Nat × List T × Int × Int) where
 pk:=fun v=>[.int v.1,.bool v.2.1,.lst v.2.2.1 v.2.2.2.1,.flt v.2.2.2.2.1,.flt v.2.2.2.2.2.1,.flt v.2.2.2.2.2.2.1,.flt v.2.2.2.2.2.2.2.1,.flt v.2.2.2.2.2.2.2.2.1,.flt v.2.2.2.2.2.2.2.2.2.1,.flt v.2.2.2.2.2.2.2.2.2.2.1,.flt v.2.2.2.2.2.2.2.2.2.2.2.1,.flt v.2.2.2.2.2.2.2.2.2.2.2.2.1,.flt v.2.2.2.2.2.2.2.2.2.2.2.2.2.1,.flt v.2.2.2.2.2.2.2.2.2.2.2.2.2.2.1,.flt v.2.2.2.2.2.2.2.2.2.2.2.2.2.2.2.1,.flt v.2.2.2.2.2.2.2.2.2.2.2.2.2.2.2.2.1,.lst v.2.2.2.2.2.2.2.2.2.2.2.2.2.2.2.2.2.1 v.2.2.2.2.2.2.2.2.2.2.2.2.2.2.2.2.2.2.1,.lst v.2.2.2.2.2.2.2.2.2.2.2.2.2.2.2.2.2.2.2.1 v.2.2.2.2.2.2.2.2.2.2.2.2.2.2.2.2.2.2.2.2.1,.int v.2.2.2.2.2.2.2.2.2.2.2.2.2.2.2.2.2.2.2.2.2.1,.int v.2.2.2.2.2.2.2.2.2.2.2.2.2.2.2.2.2.2.2.2.2.2]
 up:=fun ls=>match ls with
  | [.int a0,.bool a1,.lst a2 a3,.flt a4,.flt a5,.flt a6,.flt a7,.flt a8,.flt a9,.flt a10,.flt a11,.flt a12,.flt a13,.flt a14,.flt a15,.flt a16,.lst a17 a18,.lst a19 a20,.int a21,.int a22]=>some (a0,a1,a2,a3,a4,a5,a6,a7,a8,a9,a10,a11,a12,a13,a14,a15,a16,a17,a18,a19,a20,a21,a22)
  | _=>none
 ok:=by intro _ _ h;split at h <;>cases h;rfl
def f132.l0.P:AS:=⟨[(1,qS42),(2,qS43),(4,qS40),(5,.box [.leaf,.leaf,.leaf,.leaf,.leaf] [.flt .f32 0,.flt .f32 0,.flt .f32 0,.flt .f32 0,.flt .f32 0] [] 0),(8,.box [.leaf,.leaf,.leaf,.leaf] [.flt .f32 0,.flt .f32 0,.flt .f32 0,.flt .f32 0] [] 0),(11,.box [.leaf,.leaf,.leaf,.leaf] [.flt .f32 0,.flt .f32 0,.flt .f32 0,.flt .f32 0] [] 0),(12,qS41),(17,qS40),(18,qS42),(19,qS42)],0⟩
def f132.l0.A:Alt (Nat × Nat × Nat × Nat × Nat × Nat × Nat × Nat × Nat × List T):=.one (.exit 0) ⟨[(8,.box [.leaf,.leaf,.leaf,.leaf] [.flt .f32 0,.flt .f32 0,.flt .f32 0,.flt .f32 0] [] 0),(11,.box [.leaf,.leaf,.leaf,.leaf] [.flt .f32 0,.flt .f32 0,.flt .f32 0,.flt .f32 0] [] 0),(12,qS41)],0⟩ sg_ffffffffl
def f132.l0.F (n m:Nat) (v:Int × Bool × Nat × List T × Nat × Nat × Nat × Nat × Nat × Nat × Nat × Nat × Nat × Nat × Nat × Nat × Nat × Nat × List T × Nat × List T × Int × Int):=f132.l0 n m v.1 v.2.1 v.2.2.1 v.2.2.2.1 v.2.2.2.2.1 v.2.2.2.2.2.1 v.2.2.2.2.2.2.1 v.2.2.2.2.2.2.2.1 v.2.2.2.2.2.2.2.2.1 v.2.2.2.2.2.2.2.2.2.1 v.2.2.2.2.2.2.2.2.2.2.1 v.2.2.2.2.2.2.2.2.2.2.2.1 v.2.2.2.2.2.2.2.2.2.2.2.2.1 v.2.2.2.2.2.2.2.2.2.2.2.2.2.1 v.2.2.2.2.2.2.2.2.2.2.2.2.2.2.1 v.2.2.2.2.2.2.2.2.2.2.2.2.2.2.2.1 v.2.2.2.2.2.2.2.2.2.2.2.2.2.2.2.2.1 v.2.2.2.2.2.2.2.2.2.2.2.2.2.2.2.2.2.1 v.2.2.2.2.2.2.2.2.2.2.2.2.2.2.2.2.2.2.1 v.2.2.2.2.2.2.2.2.2.2.2.2.2.2.2.2.2.2.2.1 v.2.2.2.2.2.2.2.2.2.2.2.2.2.2.2.2.2.2.2.2.1 v.2.2.2.2.2.2.2.2.2.2.2.2.2.2.2.2.2.2.2.2.2.1 v.2.2.2.2.2.2.2.2.2.2.2.2.2.2.2.2.2.2.2.2.2.2
def f132.l0.W (n:Nat):LpW:=.of 48 f132.l0.P sg_iblfffffffffffffllii f132.l0.A (f132.l0.F n n)
def f132.P:List Arg:=[qA30,qA19,qA21,qA29,qA18]
def f132.A:RAlt (Nat × List T × Nat × Nat × Nat × Nat):=.one ⟨[qV13,qV6],[none,none,none,none,none]⟩ sg_lffff
def f132.F (n:Nat) (v:Nat × Nat × Nat × Nat × Nat × Int × Bool × Nat × Nat × Nat × Nat × Nat × List T):=f132 n v.1 v.2.1 v.2.2.1 v.2.2.2.1 v.2.2.2.2.1 v.2.2.2.2.2.1 v.2.2.2.2.2.2.1 v.2.2.2.2.2.2.2.1 v.2.2.2.2.2.2.2.2.1 v.2.2.2.2.2.2.2.2.2.1 v.2.2.2.2.2.2.2.2.2.2.1 v.2.2.2.2.2.2.2.2.2.2.2.1 v.2.2.2.2.2.2.2.2.2.2.2.2
def f132.O (n:Nat):Orc:=orcOf (E:=E) [f161.w] [f132.l0.W n] n
theorem f132.l0.ok:∀ n,LpS 132 c132 0 n (f132.O n):=lpS f132.l0.P sg_iblfffffffffffffllii f132.l0.A f132.l0.F
theorem f132.ok:FnS 132 f132.P sg_fffffibffffl f132.A f132.F:=fnS c132 f132.O [loopAt c132 0] (fun n=>(.cons (f132.l0.ok n) .nil))
def f132.w:FnW E:=fnW 132 f132.P sg_fffffibffffl f132.A f132.F f132.ok
def f133:Nat→Nat→List T→Nat→Option (Nat × List T)
 | 0,_,_,_=>none
 | n+1,n1,l2,x3 =>
   gd (decide ((0≤(1:Int))∧(((1:Int)≤(n1:Int))∧((n1:Int)≤(n1:Int))))) (
   bd (f34 n (n1 - 1) (List.take (n1 - 1) (List.drop 1 l2))) fun r4 =>
   let n5:=r4.1
   let l6:=r4.2
   gd (Nat.ble (n5+1) 2147483648) (
   some ((n5+1),(l6++(setN (reps 1 [(T.flt .f32 0)]) 0 [(T.flt .f32 x3)])))))
def f133.P:List Arg:=[qA18,qA20]
def f133.A:RAlt (Nat × List T):=.one ⟨[qV13],[none,none]⟩ sg_l
def f133.F (n:Nat) (v:Nat × List T × Nat):=f133 n v.1 v.2.1 v.2.2
def f133.O (n:Nat):Orc:=orcOf (E:=E) [f34.w] [] n
theorem f133.ok:FnS 133 f133.P sg_lf f133.A f133.F:=fnS c133 f133.O
def f133.w:FnW E:=fnW 133 f133.P sg_lf f133.A f133.F f133.ok
def f100.l0 (n:Nat):Nat→Nat→List T→Nat→List T→Nat→List T→Nat→List T→Nat→List T→Int→Int→Option (Nat × List T × Nat × List T)
 | 0,_,_,_,_,_,_,_,_,_,_,_,_=>none
 | m+1,n1,l2,n3,l4,n5,l6,n7,l8,n9,l10,i11,i12 =>
   br (decide (i12<i11)) (
    gd ((decide ((0≤i12)∧(i12<(n9:Int))))&&(okAt [(CK.flt .f32)] l10 (Int.toNat i12))) (
    let x13:=(fAt l10 (Int.toNat i12))
    gd (decide ((0≤(0:Int))∧((0:Int)<(n5:Int)))) (
    gd (okAt [(CK.flt .f32)] l6 0) (
    let x14:=(fAt l6 0)
    gd ((decide ((0≤(1:Int))∧((1:Int)<(n3:Int))))&&(okAt [(CK.flt .f32)] l4 1)) (
    gd (Nat.ble (n7+1) 2147483648) (
    let n15:=(n7+1)
    let l16:=(l8++(setN (reps 1 [(T.flt .f32 0)]) 0 [(T.flt .f32 (fadd .f32 x13 (fmul .f32 (fAt l4 1) x14)))]))
    gd ((decide ((0≤(0:Int))∧((0:Int)<(n3:Int))))&&(okAt [(CK.flt .f32)] l4 0)) (
    bd (f134 n (fadd .f32 x13 (fmul .f32 (fAt l4 0) x14))) fun r17 =>
    let x18:=r17
    bd (f133 n n5 l6 x18) fun r19 =>
    let n20:=r19.1
    let l21:=r19.2
    f100.l0 n m n1 l2 n3 l4 n20 l21 n15 l16 n9 l10 i11 (IntKind.i64.wrap (i12+(1:Int)))))))))) (
    some (n5,l6,n7,l8))
termination_by structural x=>x
def f177:Nat→Nat→Option (Nat)
 | 0,_=>none
 | n+1,x1 =>
   bd ((fltToFlt .f32 x1 .f64)) fun y2 =>
   bd (xAbs n y2) fun r3 =>
   let x4:=r3
   bd ((fltToFlt .f64 x4 .f32)) fun y5 =>
   some y5
def f177.P:List Arg:=[qA20]
def f177.A:RAlt (Nat):=.one ⟨[qV16],[none]⟩ sg_f
def f177.F (n:Nat) (v:Nat):=f177 n v
def f177.O (n:Nat):Orc:=orcOf (E:=E) [x169.w] [] n
theorem f177.ok:FnS 177 f177.P sg_f f177.A f177.F:=fnS c177 f177.O
def f177.w:FnW E:=fnW 177 f177.P sg_f f177.A f177.F f177.ok
def f175:Nat→Nat→Nat→Nat→Nat→Option (Nat × Nat × Nat)
 | 0,_,_,_,_=>none
 | n+1,x1,x2,x3,x4 =>
   bd (f177 n x4) fun r5 =>
   let x6:=r5
   br (fgt .f32 x6 x3) (
    bd (f134 n (fadd .f32 x3 (fmul .f32 x1 (fsub .f32 x6 x3)))) fun r7 =>
    let x8:=r7
    some (x1,x2,x8)) (
    bd (f134 n (fadd .f32 x3 (fmul .f32 x2 (fsub .f32 x6 x3)))) fun r9 =>
    let x10:=r9
    some (x1,x2,x10))
def sg_ffff:Sig (Nat × Nat × Nat × Nat) where
 pk:=fun v=>[.flt v.1,.flt v.2.1,.flt v.2.2.1,.flt v.2.2.2]
 up:=fun ls=>match ls with
  | [.flt a0,.flt a1,.flt a2,.flt a3]=>some (a0,a1,a2,a3)
  | _=>none
 ok:=by intro _ _ h;split at h <;>cases h;rfl
def f175.P:List Arg:=[⟨.iop,⟨false,[.rf .own [.leaf,.leaf,.leaf]],[.ref [.flt .f32 0,.flt .f32 0,.flt .f32 0]]⟩⟩,qA20]
def f175.A:RAlt (Nat × Nat × Nat):=.one ⟨[],[some ⟨false,[.rf .own [.leaf,.leaf,.leaf]],[.ref [.flt .f32 0,.flt .f32 0,.flt .f32 0]]⟩,none]⟩ sg_fff
def f175.F (n:Nat) (v:Nat × Nat × Nat × Nat):=f175 n v.1 v.2.1 v.2.2.1 v.2.2.2
def f175.O (n:Nat):Orc:=orcOf (E:=E) [f134.w,f177.w] [] n
theorem f175.ok:FnS 175 f175.P sg_ffff f175.A f175.F:=fnS c175 f175.O
def f175.w:FnW E:=fnW 175 f175.P sg_ffff f175.A f175.F f175.ok
def f176:Nat→Nat→Nat→Nat→Option (Nat)
 | 0,_,_,_=>none
 | n+1,x1,x2,x3 =>
   br (!(fgt .f32 x1 x2)) (
    some 1065353216) (
    some (fdiv .f32 (fadd .f32 x2 (fdiv .f32 (fsub .f32 x1 x2) x3)) x1))
def f176.P:List Arg:=[qA20,qA20,qA20]
def f176.A:RAlt (Nat):=.one ⟨[qV16],[none,none,none]⟩ sg_f
def f176.F (n:Nat) (v:Nat × Nat × Nat):=f176 n v.1 v.2.1 v.2.2
def f176.O (n:Nat):Orc:=orcOf (E:=E) [] [] n
theorem f176.ok:FnS 176 f176.P sg_fff f176.A f176.F:=fnS c176 f176.O
def f176.w:FnW E:=fnW 176 f176.P sg_fff f176.A f176.F f176.ok
def f164.l0 (n:Nat):Nat→Nat→List T→Nat→List T→Nat→Nat→Nat→Nat→Nat→Nat→Nat→Nat→Nat→Nat→Nat→List T→Nat→List T→Int→Int→Option (Nat × Nat × Nat × Nat × Nat × Nat × Nat × Nat × Nat × Nat × Nat × List T)
 | 0,_,_,_,_,_,_,_,_,_,_,_,_,_,_,_,_,_,_,_,_=>none
 | m+1,n1,l2,n3,l4,x5,x6,x7,x8,x9,x10,x11,x12,x13,x14,n15,l16,n17,l18,i19,i20 =>
   br (decide (i20<i19)) (
    gd ((decide ((0≤i20)∧(i20<(n17:Int))))&&(okAt [(CK.flt .f32)] l18 (Int.toNat i20))) (
    let x21:=(fAt l18 (Int.toNat i20))
    gd ((decide ((0≤i20)∧(i20<(n3:Int))))&&(okAt [(CK.flt .f32)] l4 (Int.toNat i20))) (
    bd (f175 n x5 x6 x7 (fAt l4 (Int.toNat i20))) fun r22 =>
    let x23:=r22.1
    let x24:=r22.2.1
    let x25:=r22.2.2
    bd (f176 n x25 x8 x9) fun r26 =>
    let x27:=r26
    gd (Nat.ble (n15+1) 2147483648) (
    let n28:=(n15+1)
    let l29:=(l16++(setN (reps 1 [(T.flt .f32 0)]) 0 [(T.flt .f32 (fmul .f32 x21 x27))]))
    f164.l0 n m n1 l2 n3 l4 x23 x24 x25 x8 x9 x10 x11 x12 x13 x14 n28 l29 n17 l18 i19 (IntKind.i64.wrap (i20+(1:Int))))))) (
    some (x5,x6,x7,x8,x9,x10,x11,x12,x13,x14,n15,l16))
termination_by structural x=>x
def f164:Nat→Nat→Nat→Nat→Nat→Nat→Nat→List T→Nat→List T→Option (Nat × List T × Nat × Nat × Nat × Nat × Nat × Bool)
 | 0,_,_,_,_,_,_,_,_,_=>none
 | n+1,x1,x2,x3,x4,x5,n6,l7,n8,l9 =>
   bd (f66 n n6 l7) fun r10 =>
   let b11:=r10
   br (!b11) (
    some (0,[],0,0,0,0,0,false)) (
    br ((n8:Int) != (n6:Int)) (
     some (0,[],0,0,0,0,0,false)) (
     bd (f164.l0 n n n6 l7 n8 l9 x1 x2 x3 x4 x5 0 0 0 0 0 0 [] n6 l7 (n6:Int) (0:Int)) fun r12 =>
     let x13:=r12.1
     let x14:=r12.2.1
     let x15:=r12.2.2.1
     let x16:=r12.2.2.2.1
     let x17:=r12.2.2.2.2.1
     let n23:=r12.2.2.2.2.2.2.2.2.2.2.1
     let l24:=r12.2.2.2.2.2.2.2.2.2.2.2
     some (n23,l24,x13,x14,x15,x16,x17,true)))
def sg_lfffffb:Sig (Nat × List T × Nat × Nat × Nat × Nat × Nat × Bool) where
 pk:=fun v=>[.lst v.1 v.2.1,.flt v.2.2.1,.flt v.2.2.2.1,.flt v.2.2.2.2.1,.flt v.2.2.2.2.2.1,.flt v.2.2.2.2.2.2.1,.bool v.2.2.2.2.2.2.2]
 up:=fun ls=>match ls with
  | [.lst a0 a1,.flt a2,.flt a3,.flt a4,.flt a5,.flt a6,.bool a7]=>some (a0,a1,a2,a3,a4,a5,a6,a7)
  | _=>none
 ok:=by intro _ _ h;split at h <;>cases h;rfl
def sg_llffffffffffllii:Sig (Nat × List T × Nat × List T × Nat × Nat × Nat × Nat × Nat × Nat × Nat × Nat × Nat × Nat × Nat × List T × Nat × List T × Int × Int) where
 pk:=fun v=>[.lst v.1 v.2.1,.lst v.2.2.1 v.2.2.2.1,.flt v.2.2.2.2.1,.flt v.2.2.2.2.2.1,.flt v.2.2.2.2.2.2.1,.flt v.2.2.2.2.2.2.2.1,.flt v.2.2.2.2.2.2.2.2.1,.flt v.2.2.2.2.2.2.2.2.2.1,.flt v.2.2.2.2.2.2.2.2.2.2.1,.flt v.2.2.2.2.2.2.2.2.2.2.2.1,.flt v.2.2.2.2.2.2.2.2.2.2.2.2.1,.flt v.2.2.2.2.2.2.2.2.2.2.2.2.2.1,.lst v.2.2.2.2.2.2.2.2.2.2.2.2.2.2.1 v.2.2.2.2.2.2.2.2.2.2.2.2.2.2.2.1,.lst v.2.2.2.2.2.2.2.2.2.2.2.2.2.2.2.2.1 v.2.2.2.2.2.2.2.2.2.2.2.2.2.2.2.2.2.1,.int v.2.2.2.2.2.2.2.2.2.2.2.2.2.2.2.2.2.2.1,.int v.2.2.2.2.2.2.2.2.2.2.2.2.2.2.2.2.2.2.2]
 up:=fun ls=>match ls with
  | [.lst a0 a1,.lst a2 a3,.flt a4,.flt a5,.flt a6,.flt a7,.flt a8,.flt a9,.flt a10,.flt a11,.flt a12,.flt a13,.lst a14 a15,.lst a16 a17,.int a18,.int a19]=>some (a0,a1,a2,a3,a4,a5,a6,a7,a8,a9,a10,a11,a12,a13,a14,a15,a16,a17,a18,a19)
  | _=>none
 ok:=by intro _ _ h;split at h <;>cases h;rfl
def f164.l0.P:AS:=⟨[(1,qS40),(2,qS40),(3,.box [.leaf,.leaf,.leaf,.leaf,.leaf] [.flt .f32 0,.flt .f32 0,.flt .f32 0,.flt .f32 0,.flt .f32 0] [] 0),(7,.box [.leaf,.leaf,.leaf,.leaf,.leaf] [.flt .f32 0,.flt .f32 0,.flt .f32 0,.flt .f32 0,.flt .f32 0] [] 0),(9,qS41),(23,qS40),(24,qS42),(25,qS42)],0⟩
def f164.l0.A:Alt (Nat × Nat × Nat × Nat × Nat × Nat × Nat × Nat × Nat × Nat × Nat × List T):=.one (.exit 0) ⟨[(3,.box [.leaf,.leaf,.leaf,.leaf,.leaf] [.flt .f32 0,.flt .f32 0,.flt .f32 0,.flt .f32 0,.flt .f32 0] [] 0),(7,.box [.leaf,.leaf,.leaf,.leaf,.leaf] [.flt .f32 0,.flt .f32 0,.flt .f32 0,.flt .f32 0,.flt .f32 0] [] 0),(9,qS41)],0⟩ sg_ffffffffffl
def f164.l0.F (n m:Nat) (v:Nat × List T × Nat × List T × Nat × Nat × Nat × Nat × Nat × Nat × Nat × Nat × Nat × Nat × Nat × List T × Nat × List T × Int × Int):=f164.l0 n m v.1 v.2.1 v.2.2.1 v.2.2.2.1 v.2.2.2.2.1 v.2.2.2.2.2.1 v.2.2.2.2.2.2.1 v.2.2.2.2.2.2.2.1 v.2.2.2.2.2.2.2.2.1 v.2.2.2.2.2.2.2.2.2.1 v.2.2.2.2.2.2.2.2.2.2.1 v.2.2.2.2.2.2.2.2.2.2.2.1 v.2.2.2.2.2.2.2.2.2.2.2.2.1 v.2.2.2.2.2.2.2.2.2.2.2.2.2.1 v.2.2.2.2.2.2.2.2.2.2.2.2.2.2.1 v.2.2.2.2.2.2.2.2.2.2.2.2.2.2.2.1 v.2.2.2.2.2.2.2.2.2.2.2.2.2.2.2.2.1 v.2.2.2.2.2.2.2.2.2.2.2.2.2.2.2.2.2.1 v.2.2.2.2.2.2.2.2.2.2.2.2.2.2.2.2.2.2.1 v.2.2.2.2.2.2.2.2.2.2.2.2.2.2.2.2.2.2.2
def f164.l0.W (n:Nat):LpW:=.of 80 f164.l0.P sg_llffffffffffllii f164.l0.A (f164.l0.F n n)
def f164.P:List Arg:=[qA30,qA18,qA18]
def f164.A:RAlt (Nat × List T × Nat × Nat × Nat × Nat × Nat × Bool):=.one ⟨[qV13,qV3,qV15],[none,none,none]⟩ sg_lfffffb
def f164.F (n:Nat) (v:Nat × Nat × Nat × Nat × Nat × Nat × List T × Nat × List T):=f164 n v.1 v.2.1 v.2.2.1 v.2.2.2.1 v.2.2.2.2.1 v.2.2.2.2.2.1 v.2.2.2.2.2.2.1 v.2.2.2.2.2.2.2.1 v.2.2.2.2.2.2.2.2
def f164.O (n:Nat):Orc:=orcOf (E:=E) [f66.w,f175.w,f176.w] [f164.l0.W n] n
theorem f164.l0.ok:∀ n,LpS 164 c164 0 n (f164.O n):=lpS f164.l0.P sg_llffffffffffllii f164.l0.A f164.l0.F
theorem f164.ok:FnS 164 f164.P sg_fffffll f164.A f164.F:=fnS c164 f164.O [loopAt c164 0] (fun n=>(.cons (f164.l0.ok n) .nil))
def f164.w:FnW E:=fnW 164 f164.P sg_fffffll f164.A f164.F f164.ok
def f135:Nat→Nat→Nat→Nat→Nat→Nat→Nat→List T→Option (Nat × List T × Nat × Nat × Nat × Nat × Nat × Bool)
 | 0,_,_,_,_,_,_,_=>none
 | n+1,x1,x2,x3,x4,x5,n6,l7 =>
   bd (f164 n x1 x2 x3 x4 x5 n6 l7 n6 l7) fun r8 =>
   let n9:=r8.1
   let l10:=r8.2.1
   let x11:=r8.2.2.1
   let x12:=r8.2.2.2.1
   let x13:=r8.2.2.2.2.1
   let x14:=r8.2.2.2.2.2.1
   let x15:=r8.2.2.2.2.2.2.1
   let b16:=r8.2.2.2.2.2.2.2
   some (n9,l10,x11,x12,x13,x14,x15,b16)
def sg_fffffl:Sig (Nat × Nat × Nat × Nat × Nat × Nat × List T) where
 pk:=fun v=>[.flt v.1,.flt v.2.1,.flt v.2.2.1,.flt v.2.2.2.1,.flt v.2.2.2.2.1,.lst v.2.2.2.2.2.1 v.2.2.2.2.2.2]
 up:=fun ls=>match ls with
  | [.flt a0,.flt a1,.flt a2,.flt a3,.flt a4,.lst a5 a6]=>some (a0,a1,a2,a3,a4,a5,a6)
  | _=>none
 ok:=by intro _ _ h;split at h <;>cases h;rfl
def f135.P:List Arg:=[qA30,qA18]
def f135.A:RAlt (Nat × List T × Nat × Nat × Nat × Nat × Nat × Bool):=.one ⟨[qV13,qV3,qV15],[none,none]⟩ sg_lfffffb
def f135.F (n:Nat) (v:Nat × Nat × Nat × Nat × Nat × Nat × List T):=f135 n v.1 v.2.1 v.2.2.1 v.2.2.2.1 v.2.2.2.2.1 v.2.2.2.2.2.1 v.2.2.2.2.2.2
def f135.O (n:Nat):Orc:=orcOf (E:=E) [f164.w] [] n
theorem f135.ok:FnS 135 f135.P sg_fffffl f135.A f135.F:=fnS c135 f135.O
def f135.w:FnW E:=fnW 135 f135.P sg_fffffl f135.A f135.F f135.ok
def f165:Nat→Nat→Nat→Option (Nat)
 | 0,_,_=>none
 | n+1,x1,x2 =>
   bd (f177 n x1) fun r3 =>
   let x4:=r3
   br (!(fgt .f32 x4 x2)) (
    some x1) (
    br (flt .f32 x1 0) (
     some (negF .f32 x2)) (
     some x2))
def f165.P:List Arg:=[qA20,qA20]
def f165.A:RAlt (Nat):=.one ⟨[qV16],[none,none]⟩ sg_f
def f165.F (n:Nat) (v:Nat × Nat):=f165 n v.1 v.2
def f165.O (n:Nat):Orc:=orcOf (E:=E) [f177.w] [] n
theorem f165.ok:FnS 165 f165.P sg_ff f165.A f165.F:=fnS c165 f165.O
def f165.w:FnW E:=fnW 165 f165.P sg_ff f165.A f165.F f165.ok
def f136.l0 (n:Nat):Nat→Nat→List T→Nat→Nat→List T→Nat→List T→Int→Int→Option (Nat × List T)
 | 0,_,_,_,_,_,_,_,_,_=>none
 | m+1,n1,l2,x3,n4,l5,n6,l7,i8,i9 =>
   br (decide (i9<i8)) (
    gd ((decide ((0≤i9)∧(i9<(n6:Int))))&&(okAt [(CK.flt .f32)] l7 (Int.toNat i9))) (
    let x10:=(fAt l7 (Int.toNat i9))
    bd (f165 n x10 x3) fun r11 =>
    let x12:=r11
    gd (Nat.ble (n4+1) 2147483648) (
    let n13:=(n4+1)
    let l14:=(l5++(setN (reps 1 [(T.flt .f32 0)]) 0 [(T.flt .f32 x12)]))
    f136.l0 n m n1 l2 x3 n13 l14 n6 l7 i8 (IntKind.i64.wrap (i9+(1:Int)))))) (
    some (n4,l5))
def f136:Nat→Nat→List T→Nat→Option (Nat × List T × Bool)
 | 0,_,_,_=>none
 | n+1,n1,l2,x3 =>
   bd (f66 n n1 l2) fun r4 =>
   let b5:=r4
   br (!b5) (
    some (0,[],false)) (
    bd (f136.l0 n n n1 l2 x3 0 [] n1 l2 (n1:Int) (0:Int)) fun r6 =>
    let n7:=r6.1
    let l8:=r6.2
    some (n7,l8,true))
def f136.l0.P:AS:=⟨[(0,qS40),(1,qS44),(6,qS41),(12,qS40),(13,qS42),(14,qS42)],0⟩
def f136.l0.A:Alt (Nat × List T):=.one (.exit 0) ⟨[(6,qS41)],0⟩ sg_l
def f136.l0.F (n m:Nat) (v:Nat × List T × Nat × Nat × List T × Nat × List T × Int × Int):=f136.l0 n m v.1 v.2.1 v.2.2.1 v.2.2.2.1 v.2.2.2.2.1 v.2.2.2.2.2.1 v.2.2.2.2.2.2.1 v.2.2.2.2.2.2.2.1 v.2.2.2.2.2.2.2.2
def f136.l0.W (n:Nat):LpW:=.of 80 f136.l0.P sg_lfllii f136.l0.A (f136.l0.F n n)
def f136.P:List Arg:=[qA18,qA20]
def f136.A:RAlt (Nat × List T × Bool):=.one ⟨[qV13,qV15],[none,none]⟩ sg_lb
def f136.F (n:Nat) (v:Nat × List T × Nat):=f136 n v.1 v.2.1 v.2.2
def f136.O (n:Nat):Orc:=orcOf (E:=E) [f66.w,f165.w] [f136.l0.W n] n
theorem f136.l0.ok:∀ n,LpS 136 c136 0 n (f136.O n):=lpS f136.l0.P sg_lfllii f136.l0.A f136.l0.F
theorem f136.ok:FnS 136 f136.P sg_lf f136.A f136.F:=fnS c136 f136.O [loopAt c136 0] (fun n=>(.cons (f136.l0.ok n) .nil))
def f136.w:FnW E:=fnW 136 f136.P sg_lf f136.A f136.F f136.ok
def f137:Nat→Nat→Option (Nat)
 | 0,_=>none
 | n+1,x1 =>
   br (fge .f32 x1 1065353216) (
    some 1065353216) (
    br (fle .f32 x1 3212836864) (
     some 3212836864) (
     some (fmul .f32 x1 (fsub .f32 1069547520 (fmul .f32 1056964608 (fmul .f32 x1 x1))))))
def f137.P:List Arg:=[qA20]
def f137.A:RAlt (Nat):=.one ⟨[qV16],[none]⟩ sg_f
def f137.F (n:Nat) (v:Nat):=f137 n v
def f137.O (n:Nat):Orc:=orcOf (E:=E) [] [] n
theorem f137.ok:FnS 137 f137.P sg_f f137.A f137.F:=fnS c137 f137.O
def f137.w:FnW E:=fnW 137 f137.P sg_f f137.A f137.F f137.ok
def f100.l1 (n:Nat):Nat→Nat→List T→Nat→List T→Nat→List T→Int→Int→Option (Nat × List T)
 | 0,_,_,_,_,_,_,_,_=>none
 | m+1,n1,l2,n3,l4,n5,l6,i7,i8 =>
   br (decide (i8<i7)) (
    gd ((decide ((0≤i8)∧(i8<(n5:Int))))&&(okAt [(CK.flt .f32)] l6 (Int.toNat i8))) (
    let x9:=(fAt l6 (Int.toNat i8))
    bd (f137 n x9) fun r10 =>
    let x11:=r10
    gd (Nat.ble (n3+1) 2147483648) (
    let n12:=(n3+1)
    let l13:=(l4++(setN (reps 1 [(T.flt .f32 0)]) 0 [(T.flt .f32 x11)]))
    f100.l1 n m n1 l2 n12 l13 n5 l6 i7 (IntKind.i64.wrap (i8+(1:Int)))))) (
    some (n3,l4))
def f166.l0 (n:Nat):Nat→Nat→List T→Nat→Nat→List T→Int→Int→Option (Nat)
 | 0,_,_,_,_,_,_,_=>none
 | m+1,n1,l2,x3,n4,l5,i6,i7 =>
   br (decide (i7<i6)) (
    gd ((decide ((0≤i7)∧(i7<(n4:Int))))&&(okAt [(CK.flt .f32)] l5 (Int.toNat i7))) (
    let x8:=(fAt l5 (Int.toNat i7))
    bd (f177 n x8) fun r9 =>
    let x10:=r9
    br (fgt .f32 x10 x3) (
     f166.l0 n m n1 l2 x10 n4 l5 i6 (IntKind.i64.wrap (i7+(1:Int)))) (
     f166.l0 n m n1 l2 x3 n4 l5 i6 (IntKind.i64.wrap (i7+(1:Int)))))) (
    some x3)
def f166:Nat→Nat→List T→Option (Nat)
 | 0,_,_=>none
 | n+1,n1,l2 =>
   bd (f166.l0 n n n1 l2 0 n1 l2 (n1:Int) (0:Int)) fun r3 =>
   let x4:=r3
   some x4
def sg_lflii:Sig (Nat × List T × Nat × Nat × List T × Int × Int) where
 pk:=fun v=>[.lst v.1 v.2.1,.flt v.2.2.1,.lst v.2.2.2.1 v.2.2.2.2.1,.int v.2.2.2.2.2.1,.int v.2.2.2.2.2.2]
 up:=fun ls=>match ls with
  | [.lst a0 a1,.flt a2,.lst a3 a4,.int a5,.int a6]=>some (a0,a1,a2,a3,a4,a5,a6)
  | _=>none
 ok:=by intro _ _ h;split at h <;>cases h;rfl
def f166.l0.P:AS:=⟨[(0,qS40),(3,qS44),(7,qS40),(8,qS42),(9,qS42)],0⟩
def f166.l0.A:Alt (Nat):=.one (.exit 0) ⟨[(3,qS44)],0⟩ sg_f
def f166.l0.F (n m:Nat) (v:Nat × List T × Nat × Nat × List T × Int × Int):=f166.l0 n m v.1 v.2.1 v.2.2.1 v.2.2.2.1 v.2.2.2.2.1 v.2.2.2.2.2.1 v.2.2.2.2.2.2
def f166.l0.W (n:Nat):LpW:=.of 48 f166.l0.P sg_lflii f166.l0.A (f166.l0.F n n)
def f166.P:List Arg:=[qA18]
def f166.A:RAlt (Nat):=.one ⟨[qV16],[none]⟩ sg_f
def f166.F (n:Nat) (v:Nat × List T):=f166 n v.1 v.2
def f166.O (n:Nat):Orc:=orcOf (E:=E) [f177.w] [f166.l0.W n] n
theorem f166.l0.ok:∀ n,LpS 166 c166 0 n (f166.O n):=lpS f166.l0.P sg_lflii f166.l0.A f166.l0.F
theorem f166.ok:FnS 166 f166.P sg_l f166.A f166.F:=fnS c166 f166.O [loopAt c166 0] (fun n=>(.cons (f166.l0.ok n) .nil))
def f166.w:FnW E:=fnW 166 f166.P sg_l f166.A f166.F f166.ok
def f138.l0 (n:Nat):Nat→Nat→List T→Nat→Nat→Nat→Nat→List T→Nat→Nat→Nat→Nat→List T→Nat→List T→Nat→List T→Int→Int→Option (Nat × Nat × Nat × Nat × List T × Nat × Nat × Nat × Nat × List T × Nat × List T)
 | 0,_,_,_,_,_,_,_,_,_,_,_,_,_,_,_,_,_,_=>none
 | m+1,n1,l2,x3,x4,x5,n6,l7,x8,x9,x10,n11,l12,n13,l14,n15,l16,i17,i18 =>
   br (decide (i18<i17)) (
    gd ((decide ((0≤i18)∧(i18<(n15:Int))))&&(okAt [(CK.flt .f32)] l16 (Int.toNat i18))) (
    let x19:=(fAt l16 (Int.toNat i18))
    bd (f34 n n6 l7) fun r20 =>
    let n21:=r20.1
    let l22:=r20.2
    gd (Nat.ble (n21+1) 2147483648) (
    let n23:=(n21+1)
    let l24:=(l22++(setN (reps 1 [(T.flt .f32 0)]) 0 [(T.flt .f32 x19)]))
    bd (f166 n n23 l24) fun r25 =>
    let x26:=r25
    br (fgt .f32 x26 x3) (
     let x27:=(fdiv .f32 x3 x26)
     let x28:=(fadd .f32 x5 x4)
     br (flt .f32 x27 x28) (
      gd (decide ((0≤(1:Int))∧(((1:Int)≤(n23:Int))∧((n23:Int)≤(n23:Int))))) (
      let n29:=(n23 - 1)
      let l30:=(List.take (n23 - 1) (List.drop 1 l24))
      gd ((decide ((0≤(0:Int))∧((0:Int)<(n23:Int))))&&(okAt [(CK.flt .f32)] l24 0)) (
      bd (f165 n (fmul .f32 (fAt l24 0) x27) x3) fun r31 =>
      let x32:=r31
      gd (Nat.ble (n13+1) 2147483648) (
      let n33:=(n13+1)
      let l34:=(l14++(setN (reps 1 [(T.flt .f32 0)]) 0 [(T.flt .f32 x32)]))
      f138.l0 n m n1 l2 x3 x4 x27 n29 l30 x8 x9 x10 n11 l12 n33 l34 n15 l16 i17 (IntKind.i64.wrap (i18+(1:Int))))))) (
      br (fne .f32 x28 x28) (
       gd (decide ((0≤(1:Int))∧(((1:Int)≤(n23:Int))∧((n23:Int)≤(n23:Int))))) (
       let n35:=(n23 - 1)
       let l36:=(List.take (n23 - 1) (List.drop 1 l24))
       gd ((decide ((0≤(0:Int))∧((0:Int)<(n23:Int))))&&(okAt [(CK.flt .f32)] l24 0)) (
       bd (f165 n (fmul .f32 (fAt l24 0) x27) x3) fun r37 =>
       let x38:=r37
       gd (Nat.ble (n13+1) 2147483648) (
       let n39:=(n13+1)
       let l40:=(l14++(setN (reps 1 [(T.flt .f32 0)]) 0 [(T.flt .f32 x38)]))
       f138.l0 n m n1 l2 x3 x4 x27 n35 l36 x8 x9 x10 n11 l12 n39 l40 n15 l16 i17 (IntKind.i64.wrap (i18+(1:Int))))))) (
       gd (decide ((0≤(1:Int))∧(((1:Int)≤(n23:Int))∧((n23:Int)≤(n23:Int))))) (
       let n41:=(n23 - 1)
       let l42:=(List.take (n23 - 1) (List.drop 1 l24))
       gd ((decide ((0≤(0:Int))∧((0:Int)<(n23:Int))))&&(okAt [(CK.flt .f32)] l24 0)) (
       bd (f165 n (fmul .f32 (fAt l24 0) x28) x3) fun r43 =>
       let x44:=r43
       gd (Nat.ble (n13+1) 2147483648) (
       let n45:=(n13+1)
       let l46:=(l14++(setN (reps 1 [(T.flt .f32 0)]) 0 [(T.flt .f32 x44)]))
       f138.l0 n m n1 l2 x3 x4 x28 n41 l42 x8 x9 x10 n11 l12 n45 l46 n15 l16 i17 (IntKind.i64.wrap (i18+(1:Int))))))))) (
     let x47:=(fadd .f32 x5 x4)
     br (flt .f32 1065353216 x47) (
      gd (decide ((0≤(1:Int))∧(((1:Int)≤(n23:Int))∧((n23:Int)≤(n23:Int))))) (
      let n48:=(n23 - 1)
      let l49:=(List.take (n23 - 1) (List.drop 1 l24))
      gd ((decide ((0≤(0:Int))∧((0:Int)<(n23:Int))))&&(okAt [(CK.flt .f32)] l24 0)) (
      bd (f165 n (fmul .f32 (fAt l24 0) 1065353216) x3) fun r50 =>
      let x51:=r50
      gd (Nat.ble (n13+1) 2147483648) (
      let n52:=(n13+1)
      let l53:=(l14++(setN (reps 1 [(T.flt .f32 0)]) 0 [(T.flt .f32 x51)]))
      f138.l0 n m n1 l2 x3 x4 1065353216 n48 l49 x8 x9 x10 n11 l12 n52 l53 n15 l16 i17 (IntKind.i64.wrap (i18+(1:Int))))))) (
      br (fne .f32 x47 x47) (
       gd (decide ((0≤(1:Int))∧(((1:Int)≤(n23:Int))∧((n23:Int)≤(n23:Int))))) (
       let n54:=(n23 - 1)
       let l55:=(List.take (n23 - 1) (List.drop 1 l24))
       gd ((decide ((0≤(0:Int))∧((0:Int)<(n23:Int))))&&(okAt [(CK.flt .f32)] l24 0)) (
       bd (f165 n (fmul .f32 (fAt l24 0) 1065353216) x3) fun r56 =>
       let x57:=r56
       gd (Nat.ble (n13+1) 2147483648) (
       let n58:=(n13+1)
       let l59:=(l14++(setN (reps 1 [(T.flt .f32 0)]) 0 [(T.flt .f32 x57)]))
       f138.l0 n m n1 l2 x3 x4 1065353216 n54 l55 x8 x9 x10 n11 l12 n58 l59 n15 l16 i17 (IntKind.i64.wrap (i18+(1:Int))))))) (
       gd (decide ((0≤(1:Int))∧(((1:Int)≤(n23:Int))∧((n23:Int)≤(n23:Int))))) (
       let n60:=(n23 - 1)
       let l61:=(List.take (n23 - 1) (List.drop 1 l24))
       gd ((decide ((0≤(0:Int))∧((0:Int)<(n23:Int))))&&(okAt [(CK.flt .f32)] l24 0)) (
       bd (f165 n (fmul .f32 (fAt l24 0) x47) x3) fun r62 =>
       let x63:=r62
       gd (Nat.ble (n13+1) 2147483648) (
       let n64:=(n13+1)
       let l65:=(l14++(setN (reps 1 [(T.flt .f32 0)]) 0 [(T.flt .f32 x63)]))
       f138.l0 n m n1 l2 x3 x4 x47 n60 l61 x8 x9 x10 n11 l12 n64 l65 n15 l16 i17 (IntKind.i64.wrap (i18+(1:Int)))))))))))) (
    some (x3,x4,x5,n6,l7,x8,x9,x10,n11,l12,n13,l14))
termination_by structural x=>x
def f138:Nat→Nat→Nat→Nat→Nat→List T→Nat→List T→Option (Nat × List T × Nat × Nat × Nat × Nat × List T × Bool)
 | 0,_,_,_,_,_,_,_=>none
 | n+1,x1,x2,x3,n4,l5,n6,l7 =>
   bd (f130 n x1) fun r8 =>
   let b9:=r8
   br (!b9) (
    some (0,[],0,0,0,0,[],false)) (
    br (decide ((n4:Int)>(64:Int))) (
     some (0,[],0,0,0,0,[],false)) (
     bd (f66 n n6 l7) fun r10 =>
     let b11:=r10
     br (!b11) (
      some (0,[],0,0,0,0,[],false)) (
      bd (f34 n n4 l5) fun r12 =>
      let n13:=r12.1
      let l14:=r12.2
      bd (f138.l0 n n n6 l7 x1 x2 x3 n13 l14 0 0 0 0 [] 0 [] n6 l7 (n6:Int) (0:Int)) fun r15 =>
      let x16:=r15.1
      let x17:=r15.2.1
      let x18:=r15.2.2.1
      let n19:=r15.2.2.2.1
      let l20:=r15.2.2.2.2.1
      let n26:=r15.2.2.2.2.2.2.2.2.2.2.1
      let l27:=r15.2.2.2.2.2.2.2.2.2.2.2
      bd (f34 n n19 l20) fun r28 =>
      let n29:=r28.1
      let l30:=r28.2
      some (n26,l27,x16,x17,x18,n29,l30,true))))
def sg_lffflffflllii:Sig (Nat × List T × Nat × Nat × Nat × Nat × List T × Nat × Nat × Nat × Nat × List T × Nat × List T × Nat × List T × Int × Int) where
 pk:=fun v=>[.lst v.1 v.2.1,.flt v.2.2.1,.flt v.2.2.2.1,.flt v.2.2.2.2.1,.lst v.2.2.2.2.2.1 v.2.2.2.2.2.2.1,.flt v.2.2.2.2.2.2.2.1,.flt v.2.2.2.2.2.2.2.2.1,.flt v.2.2.2.2.2.2.2.2.2.1,.lst v.2.2.2.2.2.2.2.2.2.2.1 v.2.2.2.2.2.2.2.2.2.2.2.1,.lst v.2.2.2.2.2.2.2.2.2.2.2.2.1 v.2.2.2.2.2.2.2.2.2.2.2.2.2.1,.lst v.2.2.2.2.2.2.2.2.2.2.2.2.2.2.1 v.2.2.2.2.2.2.2.2.2.2.2.2.2.2.2.1,.int v.2.2.2.2.2.2.2.2.2.2.2.2.2.2.2.2.1,.int v.2.2.2.2.2.2.2.2.2.2.2.2.2.2.2.2.2]
 up:=fun ls=>match ls with
  | [.lst a0 a1,.flt a2,.flt a3,.flt a4,.lst a5 a6,.flt a7,.flt a8,.flt a9,.lst a10 a11,.lst a12 a13,.lst a14 a15,.int a16,.int a17]=>some (a0,a1,a2,a3,a4,a5,a6,a7,a8,a9,a10,a11,a12,a13,a14,a15,a16,a17)
  | _=>none
 ok:=by intro _ _ h;split at h <;>cases h;rfl
def sg_ffflfffll:Sig (Nat × Nat × Nat × Nat × List T × Nat × Nat × Nat × Nat × List T × Nat × List T) where
 pk:=fun v=>[.flt v.1,.flt v.2.1,.flt v.2.2.1,.lst v.2.2.2.1 v.2.2.2.2.1,.flt v.2.2.2.2.2.1,.flt v.2.2.2.2.2.2.1,.flt v.2.2.2.2.2.2.2.1,.lst v.2.2.2.2.2.2.2.2.1 v.2.2.2.2.2.2.2.2.2.1,.lst v.2.2.2.2.2.2.2.2.2.2.1 v.2.2.2.2.2.2.2.2.2.2.2]
 up:=fun ls=>match ls with
  | [.flt a0,.flt a1,.flt a2,.lst a3 a4,.flt a5,.flt a6,.flt a7,.lst a8 a9,.lst a10 a11]=>some (a0,a1,a2,a3,a4,a5,a6,a7,a8,a9,a10,a11)
  | _=>none
 ok:=by intro _ _ h;split at h <;>cases h;rfl
def f138.l0.P:AS:=⟨[(1,qS40),(2,.box [.leaf,.leaf,.leaf,.sl .shr [.leaf]] [.flt .f32 0,.flt .f32 0,.flt .f32 0,.lst 0 []] [] 0),(5,.box [.leaf,.leaf,.leaf,.sl .own [.leaf]] [.flt .f32 0,.flt .f32 0,.flt .f32 0,.lst 0 []] [] 0),(7,qS41),(34,qS40),(35,qS42),(36,qS42)],0⟩
def f138.l0.A:Alt (Nat × Nat × Nat × Nat × List T × Nat × Nat × Nat × Nat × List T × Nat × List T):=.one (.exit 0) ⟨[(2,.box [.leaf,.leaf,.leaf,.sl .shr [.leaf]] [.flt .f32 0,.flt .f32 0,.flt .f32 0,.lst 0 []] [] 0),(5,.box [.leaf,.leaf,.leaf,.sl .own [.leaf]] [.flt .f32 0,.flt .f32 0,.flt .f32 0,.lst 0 []] [] 0),(7,qS41)],0⟩ sg_ffflfffll
def f138.l0.F (n m:Nat) (v:Nat × List T × Nat × Nat × Nat × Nat × List T × Nat × Nat × Nat × Nat × List T × Nat × List T × Nat × List T × Int × Int):=f138.l0 n m v.1 v.2.1 v.2.2.1 v.2.2.2.1 v.2.2.2.2.1 v.2.2.2.2.2.1 v.2.2.2.2.2.2.1 v.2.2.2.2.2.2.2.1 v.2.2.2.2.2.2.2.2.1 v.2.2.2.2.2.2.2.2.2.1 v.2.2.2.2.2.2.2.2.2.2.1 v.2.2.2.2.2.2.2.2.2.2.2.1 v.2.2.2.2.2.2.2.2.2.2.2.2.1 v.2.2.2.2.2.2.2.2.2.2.2.2.2.1 v.2.2.2.2.2.2.2.2.2.2.2.2.2.2.1 v.2.2.2.2.2.2.2.2.2.2.2.2.2.2.2.1 v.2.2.2.2.2.2.2.2.2.2.2.2.2.2.2.2.1 v.2.2.2.2.2.2.2.2.2.2.2.2.2.2.2.2.2
def f138.l0.W (n:Nat):LpW:=.of 96 f138.l0.P sg_lffflffflllii f138.l0.A (f138.l0.F n n)
def f138.P:List Arg:=[⟨.val,⟨true,[.leaf,.leaf,.leaf,.sl .shr [.leaf]],[.flt .f32 0,.flt .f32 0,.flt .f32 0,.lst 0 []]⟩⟩,qA18]
def f138.A:RAlt (Nat × List T × Nat × Nat × Nat × Nat × List T × Bool):=.one ⟨[qV13,⟨true,[.leaf,.leaf,.leaf,.sl .own [.leaf]],[.flt .f32 0,.flt .f32 0,.flt .f32 0,.lst 0 []]⟩,qV15],[none,none]⟩ sg_lffflb
def f138.F (n:Nat) (v:Nat × Nat × Nat × Nat × List T × Nat × List T):=f138 n v.1 v.2.1 v.2.2.1 v.2.2.2.1 v.2.2.2.2.1 v.2.2.2.2.2.1 v.2.2.2.2.2.2
def f138.O (n:Nat):Orc:=orcOf (E:=E) [f130.w,f66.w,f34.w,f165.w,f166.w] [f138.l0.W n] n
theorem f138.l0.ok:∀ n,LpS 138 c138 0 n (f138.O n):=lpS f138.l0.P sg_lffflffflllii f138.l0.A f138.l0.F
theorem f138.ok:FnS 138 f138.P sg_fffll f138.A f138.F:=fnS c138 f138.O [loopAt c138 0] (fun n=>(.cons (f138.l0.ok n) .nil))
def f138.w:FnW E:=fnW 138 f138.P sg_fffll f138.A f138.F f138.ok
def f100:Nat→Int→Int→Nat→List T→Nat→List T→Nat→List T→Option (Nat × List T × Nat × List T)
 | 0,_,_,_,_,_,_,_,_=>none
 | n+1,i1,i2,n3,l4,n5,l6,n7,l8 =>
   br (i1==(0:Int)) (
    gd ((decide ((0≤(0:Int))∧((0:Int)<(n3:Int))))&&(okAt [(CK.flt .f32)] l4 0)) (
    bd (f131 n n7 l8 (fAt l4 0)) fun r9 =>
    let n10:=r9.1
    let l11:=r9.2
    some (n10,l11,0,[]))) (
    br (i1==(1:Int)) (
     gd ((decide ((0≤(0:Int))∧((0:Int)<(n3:Int))))&&(okAt [(CK.flt .f32)] l4 0)) (
     gd ((decide ((0≤(1:Int))∧((1:Int)<(n3:Int))))&&(okAt [(CK.flt .f32)] l4 1)) (
     gd ((decide ((0≤(2:Int))∧((2:Int)<(n3:Int))))&&(okAt [(CK.flt .f32)] l4 2)) (
     gd ((decide ((0≤(3:Int))∧((3:Int)<(n3:Int))))&&(okAt [(CK.flt .f32)] l4 3)) (
     gd ((decide ((0≤(4:Int))∧((4:Int)<(n3:Int))))&&(okAt [(CK.flt .f32)] l4 4)) (
     let x12:=(fAt l4 0)
     let x13:=(fAt l4 1)
     let x14:=(fAt l4 2)
     let x15:=(fAt l4 3)
     let x16:=(fAt l4 4)
     gd ((decide ((0≤(0:Int))∧((0:Int)<(n5:Int))))&&(okAt [(CK.flt .f32)] l6 0)) (
     gd ((decide ((0≤(1:Int))∧((1:Int)<(n5:Int))))&&(okAt [(CK.flt .f32)] l6 1)) (
     bd (f132 n x12 x13 x14 x15 x16 (1:Int) true (fAt l6 0) (fAt l6 1) 0 0 n7 l8) fun r17 =>
     let n18:=r17.1
     let l19:=r17.2.1
     let x20:=r17.2.2.1
     let x21:=r17.2.2.2.1
     some (n18,l19,2,(setN (setN (reps 2 [(T.flt .f32 0)]) 0 [(T.flt .f32 x20)]) 1 [(T.flt .f32 x21)])))))))))) (
     br (i1==(2:Int)) (
      bd (f34 n n5 l6) fun r24 =>
      let n25:=r24.1
      let l26:=r24.2
      bd (f100.l0 n n n7 l8 n3 l4 n25 l26 0 [] n7 l8 (n7:Int) (0:Int)) fun r27 =>
      let n28:=r27.1
      let l29:=r27.2.1
      let n30:=r27.2.2.1
      let l31:=r27.2.2.2
      some (n30,l31,n28,l29)) (
      br (i1==(3:Int)) (
       gd ((decide ((0≤(0:Int))∧((0:Int)<(n3:Int))))&&(okAt [(CK.flt .f32)] l4 0)) (
       gd ((decide ((0≤(1:Int))∧((1:Int)<(n3:Int))))&&(okAt [(CK.flt .f32)] l4 1)) (
       gd ((decide ((0≤(0:Int))∧((0:Int)<(n5:Int))))&&(okAt [(CK.flt .f32)] l6 0)) (
       gd ((decide ((0≤(2:Int))∧((2:Int)<(n3:Int))))&&(okAt [(CK.flt .f32)] l4 2)) (
       gd ((decide ((0≤(3:Int))∧((3:Int)<(n3:Int))))&&(okAt [(CK.flt .f32)] l4 3)) (
       let x32:=(fAt l4 0)
       let x33:=(fAt l4 1)
       let x34:=(fAt l6 0)
       let x35:=(fAt l4 2)
       let x36:=(fAt l4 3)
       bd (f135 n x32 x33 x34 x35 x36 n7 l8) fun r37 =>
       let n38:=r37.1
       let l39:=r37.2.1
       let x42:=r37.2.2.2.2.1
       some (n38,l39,1,(setN (reps 1 [(T.flt .f32 0)]) 0 [(T.flt .f32 x42)])))))))) (
       br (i1==(4:Int)) (
        gd ((decide ((0≤(0:Int))∧((0:Int)<(n3:Int))))&&(okAt [(CK.flt .f32)] l4 0)) (
        bd (f136 n n7 l8 (fAt l4 0)) fun r46 =>
        let n47:=r46.1
        let l48:=r46.2.1
        some (n47,l48,0,[]))) (
        br (i1==(5:Int)) (
         bd (f100.l1 n n n7 l8 0 [] n7 l8 (n7:Int) (0:Int)) fun r50 =>
         let n51:=r50.1
         let l52:=r50.2
         some (n51,l52,0,[])) (
         gd ((decide ((0≤(0:Int))∧((0:Int)<(n3:Int))))&&(okAt [(CK.flt .f32)] l4 0)) (
         gd ((decide ((0≤(1:Int))∧((1:Int)<(n3:Int))))&&(okAt [(CK.flt .f32)] l4 1)) (
         gd ((decide ((0≤(0:Int))∧((0:Int)<(n5:Int))))&&(okAt [(CK.flt .f32)] l6 0)) (
         gd (decide ((0≤(1:Int))∧(((1:Int)≤(n5:Int))∧((n5:Int)≤(n5:Int))))) (
         bd (f138 n (fAt l4 0) (fAt l4 1) (fAt l6 0) (n5 - 1) (List.take (n5 - 1) (List.drop 1 l6)) n7 l8) fun r53 =>
         let n54:=r53.1
         let l55:=r53.2.1
         let x58:=r53.2.2.2.2.1
         let n59:=r53.2.2.2.2.2.1
         let l60:=r53.2.2.2.2.2.2.1
         gd (Nat.ble (1+n59) 2147483648) (
         some (n54,l55,(1+n59),((setN (reps 1 [(T.flt .f32 0)]) 0 [(T.flt .f32 x58)])++l60)))))))))))))
def sg_lllllii:Sig (Nat × List T × Nat × List T × Nat × List T × Nat × List T × Nat × List T × Int × Int) where
 pk:=fun v=>[.lst v.1 v.2.1,.lst v.2.2.1 v.2.2.2.1,.lst v.2.2.2.2.1 v.2.2.2.2.2.1,.lst v.2.2.2.2.2.2.1 v.2.2.2.2.2.2.2.1,.lst v.2.2.2.2.2.2.2.2.1 v.2.2.2.2.2.2.2.2.2.1,.int v.2.2.2.2.2.2.2.2.2.2.1,.int v.2.2.2.2.2.2.2.2.2.2.2]
 up:=fun ls=>match ls with
  | [.lst a0 a1,.lst a2 a3,.lst a4 a5,.lst a6 a7,.lst a8 a9,.int a10,.int a11]=>some (a0,a1,a2,a3,a4,a5,a6,a7,a8,a9,a10,a11)
  | _=>none
 ok:=by intro _ _ h;split at h <;>cases h;rfl
def f100.l0.P:AS:=⟨[(2,qS40),(8,qS40),(12,qS41),(13,qS41),(80,qS40),(81,qS42),(82,qS42)],0⟩
def f100.l0.A:Alt (Nat × List T × Nat × List T):=.one (.exit 1) ⟨[(12,qS41),(13,qS41)],0⟩ sg_ll
def f100.l0.F (n m:Nat) (v:Nat × List T × Nat × List T × Nat × List T × Nat × List T × Nat × List T × Int × Int):=f100.l0 n m v.1 v.2.1 v.2.2.1 v.2.2.2.1 v.2.2.2.2.1 v.2.2.2.2.2.1 v.2.2.2.2.2.2.1 v.2.2.2.2.2.2.2.1 v.2.2.2.2.2.2.2.2.1 v.2.2.2.2.2.2.2.2.2.1 v.2.2.2.2.2.2.2.2.2.2.1 v.2.2.2.2.2.2.2.2.2.2.2
def f100.l0.W (n:Nat):LpW:=.of 208 f100.l0.P sg_lllllii f100.l0.A (f100.l0.F n n)
def f100.l1.P:AS:=⟨[(2,qS40),(22,qS41),(156,qS40),(157,qS42),(158,qS42)],0⟩
def f100.l1.A:Alt (Nat × List T):=.one (.exit 3) ⟨[(22,qS41)],0⟩ sg_l
def f100.l1.F (n m:Nat) (v:Nat × List T × Nat × List T × Nat × List T × Int × Int):=f100.l1 n m v.1 v.2.1 v.2.2.1 v.2.2.2.1 v.2.2.2.2.1 v.2.2.2.2.2.1 v.2.2.2.2.2.2.1 v.2.2.2.2.2.2.2
def f100.l1.W (n:Nat):LpW:=.of 480 f100.l1.P sg_lllii f100.l1.A (f100.l1.F n n)
def f100.P:List Arg:=[qA23,qA18,qA18]
def f100.A:RAlt (Nat × List T × Nat × List T):=.one ⟨[qV13,qV13],[none,none,none]⟩ sg_ll
def f100.F (n:Nat) (v:Int × Int × Nat × List T × Nat × List T × Nat × List T):=f100 n v.1 v.2.1 v.2.2.1 v.2.2.2.1 v.2.2.2.2.1 v.2.2.2.2.2.1 v.2.2.2.2.2.2.1 v.2.2.2.2.2.2.2
def f100.O (n:Nat):Orc:=orcOf (E:=E) [f34.w,f131.w,f134.w,f132.w,f133.w,f135.w,f136.w,f137.w,f138.w] [f100.l0.W n,f100.l1.W n] n
theorem f100.l0.ok:∀ n,LpS 100 c100 0 n (f100.O n):=lpS f100.l0.P sg_lllllii f100.l0.A f100.l0.F
theorem f100.l1.ok:∀ n,LpS 100 c100 1 n (f100.O n):=lpS f100.l1.P sg_lllii f100.l1.A f100.l1.F
theorem f100.ok:FnS 100 f100.P sg_iilll f100.A f100.F:=fnS c100 f100.O [loopAt c100 0,loopAt c100 1] (fun n=>(.cons (f100.l0.ok n) (.cons (f100.l1.ok n) .nil)))
def f100.w:FnW E:=fnW 100 f100.P sg_iilll f100.A f100.F f100.ok
def f67.l0 (n:Nat):Nat→Nat→List T→Nat→List T→Nat→List T→Nat→List T→Nat→List T→Int→Int→Option (Nat × List T × Nat × List T)
 | 0,_,_,_,_,_,_,_,_,_,_,_,_=>none
 | m+1,n1,l2,n3,l4,n5,l6,n7,l8,n9,l10,i11,i12 =>
   br (decide (i12<i11)) (
    gd ((decide ((0≤i12)∧(i12<(n9:Int))))&&(okAt [(CK.int .i64),(CK.int .i64),CK.lst] l10 (((Int.toNat i12) * 3)+0))) (
    let i13:=(iAt l10 (((Int.toNat i12) * 3)+0))
    let i14:=(iAt l10 ((((Int.toNat i12) * 3)+0)+1))
    let n15:=(nAt l10 (((((Int.toNat i12) * 3)+0)+1)+1))
    let l16:=(lAt l10 (((((Int.toNat i12) * 3)+0)+1)+1))
    gd ((decide ((0≤i12)∧(i12<(n3:Int))))&&(okAt [CK.lst] l4 (Int.toNat i12))) (
    bd (f100 n i13 i14 n15 l16 (nAt l4 (Int.toNat i12)) (lAt l4 (Int.toNat i12)) n5 l6) fun r17 =>
    let n18:=r17.1
    let l19:=r17.2.1
    let n20:=r17.2.2.1
    let l21:=r17.2.2.2
    gd (Nat.ble (n7+1) 2147483648) (
    let n22:=(n7+1)
    let l23:=(l8++(setN (reps 1 [(T.lst 0 [])]) 0 [(T.lst n20 l21)]))
    f67.l0 n m n1 l2 n3 l4 n18 l19 n22 l23 n9 l10 i11 (IntKind.i64.wrap (i12+(1:Int))))))) (
    some (n5,l6,n7,l8))
termination_by structural x=>x
def f67:Nat→Nat→List T→Nat→List T→Nat→List T→Option (Nat × List T × Nat × List T)
 | 0,_,_,_,_,_,_=>none
 | n+1,n1,l2,n3,l4,n5,l6 =>
   bd (f34 n n5 l6) fun r7 =>
   let n8:=r7.1
   let l9:=r7.2
   bd (f67.l0 n n n1 l2 n3 l4 n8 l9 0 [] n1 l2 (n1:Int) (0:Int)) fun r10 =>
   let n11:=r10.1
   let l12:=r10.2.1
   let n13:=r10.2.2.1
   let l14:=r10.2.2.2
   some (n11,l12,n13,l14)
def f67.l0.P:AS:=⟨[(0,qS35),(1,.val false [.sl .shr [.sl .shr [.leaf]]] [.lst 0 []] [] 0),(8,qS41),(9,qS39),(16,qS35),(17,qS42),(18,qS42)],0⟩
def f67.l0.A:Alt (Nat × List T × Nat × List T):=.one (.exit 0) ⟨[(8,qS41),(9,qS39)],0⟩ sg_ll
def f67.l0.F (n m:Nat) (v:Nat × List T × Nat × List T × Nat × List T × Nat × List T × Nat × List T × Int × Int):=f67.l0 n m v.1 v.2.1 v.2.2.1 v.2.2.2.1 v.2.2.2.2.1 v.2.2.2.2.2.1 v.2.2.2.2.2.2.1 v.2.2.2.2.2.2.2.1 v.2.2.2.2.2.2.2.2.1 v.2.2.2.2.2.2.2.2.2.1 v.2.2.2.2.2.2.2.2.2.2.1 v.2.2.2.2.2.2.2.2.2.2.2
def f67.l0.W (n:Nat):LpW:=.of 64 f67.l0.P sg_lllllii f67.l0.A (f67.l0.F n n)
def f67.P:List Arg:=[qA24,⟨.val,⟨false,[.sl .shr [.sl .shr [.leaf]]],[.lst 0 []]⟩⟩,qA18]
def f67.A:RAlt (Nat × List T × Nat × List T):=.one ⟨[qV13,qV11],[none,none,none]⟩ sg_ll
def f67.F (n:Nat) (v:Nat × List T × Nat × List T × Nat × List T):=f67 n v.1 v.2.1 v.2.2.1 v.2.2.2.1 v.2.2.2.2.1 v.2.2.2.2.2
def f67.O (n:Nat):Orc:=orcOf (E:=E) [f34.w,f100.w] [f67.l0.W n] n
theorem f67.l0.ok:∀ n,LpS 67 c67 0 n (f67.O n):=lpS f67.l0.P sg_lllllii f67.l0.A f67.l0.F
theorem f67.ok:FnS 67 f67.P sg_lll f67.A f67.F:=fnS c67 f67.O [loopAt c67 0] (fun n=>(.cons (f67.l0.ok n) .nil))
def f67.w:FnW E:=fnW 67 f67.P sg_lll f67.A f67.F f67.ok
def f27:Nat→Nat→List T→Nat→List T→Int→Int→Option (Nat × List T)
 | 0,_,_,_,_,_,_=>none
 | n+1,n1,l2,n3,l4,i5,i6 =>
   gd ((decide ((0≤i5)∧(i5<(n3:Int))))&&(okAt [CK.lst,(CK.int .i64),(CK.flt .f32),CK.bool,CK.bool] l4 (((Int.toNat i5) * 5)+0))) (
   let n7:=(nAt l4 (((Int.toNat i5) * 5)+0))
   let l8:=(lAt l4 (((Int.toNat i5) * 5)+0))
   bd (f68 n n7 l8) fun r9 =>
   let n10:=r9.1
   let l11:=r9.2
   bd (f69 n n1 l2 n3 l4 i5 (0:Int) i6) fun r12 =>
   let n13:=r12.1
   let l14:=r12.2
   bd (f67 n n7 l8 n10 l11 n13 l14) fun r15 =>
   let n16:=r15.1
   let l17:=r15.2.1
   some (n16,l17))
def f27.P:List Arg:=[qA27,qA19,qA19]
def f27.A:RAlt (Nat × List T):=.one ⟨[qV13],[none,none,none]⟩ sg_l
def f27.F (n:Nat) (v:Nat × List T × Nat × List T × Int × Int):=f27 n v.1 v.2.1 v.2.2.1 v.2.2.2.1 v.2.2.2.2.1 v.2.2.2.2.2
def f27.O (n:Nat):Orc:=orcOf (E:=E) [f68.w,f69.w,f67.w] [] n
theorem f27.ok:FnS 27 f27.P sg_llii f27.A f27.F:=fnS c27 f27.O
def f27.w:FnW E:=fnW 27 f27.P sg_llii f27.A f27.F f27.ok
def f9.l0 (n:Nat):Nat→Int→Nat→List T→Nat→List T→Nat→List T→Nat→List T→Int→Int→Option (Int × Nat × List T)
 | 0,_,_,_,_,_,_,_,_,_,_,_=>none
 | m+1,i1,n2,l3,n4,l5,n6,l7,n8,l9,i10,i11 =>
   br (decide (i11<i10)) (
    gd ((decide ((0≤i11)∧(i11<(n8:Int))))&&(okAt [CK.lst,(CK.int .i64),(CK.flt .f32),CK.bool,CK.bool] l9 (((Int.toNat i11) * 5)+0))) (
    let n12:=(nAt l9 (((Int.toNat i11) * 5)+0))
    let l13:=(lAt l9 (((Int.toNat i11) * 5)+0))
    let i14:=(iAt l9 ((((Int.toNat i11) * 5)+0)+1))
    let x15:=(fAt l9 (((((Int.toNat i11) * 5)+0)+1)+1))
    let b16:=(bAt l9 ((((((Int.toNat i11) * 5)+0)+1)+1)+1))
    let b17:=(bAt l9 (((((((Int.toNat i11) * 5)+0)+1)+1)+1)+1))
    bd (f27 n n2 l3 n4 l5 i11 i1) fun r18 =>
    let n19:=r18.1
    let l20:=r18.2
    gd (Nat.ble (n6+1) 2147483648) (
    let n21:=(n6+1)
    let l22:=(l7++(setN (reps 1 [(T.lst 0 []),(T.int .i64 (0:Int)),(T.flt .f32 0),(T.bool false),(T.bool false)]) 0 (setN (setN (setN (setN (setN [(T.lst 0 []),(T.int .i64 (0:Int)),(T.flt .f32 0),(T.bool false),(T.bool false)] 0 [(T.lst n19 l20)]) 1 [(T.int .i64 i14)]) 2 [(T.flt .f32 x15)]) 3 [(T.bool b16)]) 4 [(T.bool b17)])))
    f9.l0 n m i1 n2 l3 n4 l5 n21 l22 n8 l9 i10 (IntKind.i64.wrap (i11+(1:Int)))))) (
    some (i1,n6,l7))
def f71.l0 (n:Nat):Nat→Nat→List T→Nat→List T→Nat→List T→Nat→List T→Int→Int→Option (Nat × List T × Nat × List T)
 | 0,_,_,_,_,_,_,_,_,_,_=>none
 | m+1,n1,l2,n3,l4,n5,l6,n7,l8,i9,i10 =>
   br (decide (i10<i9)) (
    gd ((decide ((0≤i10)∧(i10<(n7:Int))))&&(okAt [CK.lst,(CK.int .i64),(CK.flt .f32),CK.bool,CK.bool] l8 (((Int.toNat i10) * 5)+0))) (
    let n11:=(nAt l8 (((Int.toNat i10) * 5)+0))
    let l12:=(lAt l8 (((Int.toNat i10) * 5)+0))
    let i13:=(iAt l8 ((((Int.toNat i10) * 5)+0)+1))
    let x14:=(fAt l8 (((((Int.toNat i10) * 5)+0)+1)+1))
    let b15:=(bAt l8 ((((((Int.toNat i10) * 5)+0)+1)+1)+1))
    let b16:=(bAt l8 (((((((Int.toNat i10) * 5)+0)+1)+1)+1)+1))
    gd (Nat.ble (n3+1) 2147483648) (
    gd (Nat.ble (n5+1) 2147483648) (
    let n17:=(n3+1)
    let l18:=(l4++(setN (reps 1 [(T.bool false)]) 0 [(T.bool b15)]))
    let n19:=(n5+1)
    let l20:=(l6++(setN (reps 1 [(T.bool false)]) 0 [(T.bool b16)]))
    f71.l0 n m n1 l2 n17 l18 n19 l20 n7 l8 i9 (IntKind.i64.wrap (i10+(1:Int))))))) (
    some (n3,l4,n5,l6))
def f167.l0 (n:Nat):Nat→Nat→List T→Bool→Int→Int→Option ((Int) ⊕ (Unit))
 | 0,_,_,_,_,_=>none
 | m+1,n1,l2,b3,i4,i5 =>
   br (decide (i5<i4)) (
    gd ((decide ((0≤i5)∧(i5<(n1:Int))))&&(okAt [CK.bool] l2 (Int.toNat i5))) (
    br (b3==(bAt l2 (Int.toNat i5))) (
     some (Sum.inl i5)) (
     f167.l0 n m n1 l2 b3 i4 (IntKind.i64.wrap (i5+(1:Int)))))) (
    some (Sum.inr ()))
def f167:Nat→Nat→List T→Bool→Option (Int)
 | 0,_,_,_=>none
 | n+1,n1,l2,b3 =>
   bd (f167.l0 n n n1 l2 b3 (n1:Int) (0:Int)) fun r4 =>
   sm r4 (fun u5 =>
    let i6:=u5
    some i6) (fun u7 =>
    some (-1:Int))
def f167.l0.P:AS:=⟨[(0,qS40),(1,qS43),(7,qS42),(8,qS42)],0⟩
def f167.l0.A:Alt ((Int) ⊕ (Unit)):=.or (.one .ret ⟨[(4,qS42)],0⟩ sg_i) (.one (.exit 0) ⟨[(4,.dead)],0⟩ sg)
def f167.l0.F (n m:Nat) (v:Nat × List T × Bool × Int × Int):=f167.l0 n m v.1 v.2.1 v.2.2.1 v.2.2.2.1 v.2.2.2.2
def f167.l0.W (n:Nat):LpW:=.of 32 f167.l0.P sg_lbii f167.l0.A (f167.l0.F n n)
def f167.P:List Arg:=[qA18,qA21]
def f167.A:RAlt (Int):=.one ⟨[qV14],[none,none]⟩ sg_i
def f167.F (n:Nat) (v:Nat × List T × Bool):=f167 n v.1 v.2.1 v.2.2
def f167.O (n:Nat):Orc:=orcOf (E:=E) [] [f167.l0.W n] n
theorem f167.l0.ok:∀ n,LpS 167 c167 0 n (f167.O n):=lpS f167.l0.P sg_lbii f167.l0.A f167.l0.F
theorem f167.ok:FnS 167 f167.P sg_lb f167.A f167.F:=fnS c167 f167.O [loopAt c167 0] (fun n=>(.cons (f167.l0.ok n) .nil))
def f167.w:FnW E:=fnW 167 f167.P sg_lb f167.A f167.F f167.ok
def f139:Nat→Nat→List T→Bool→Option (Bool)
 | 0,_,_,_=>none
 | n+1,n1,l2,b3 =>
   bd (f167 n n1 l2 b3) fun r4 =>
   let i5:=r4
   some (decide (i5≥(0:Int)))
def f139.P:List Arg:=[qA18,qA21]
def f139.A:RAlt (Bool):=.one ⟨[qV15],[none,none]⟩ sg_b
def f139.F (n:Nat) (v:Nat × List T × Bool):=f139 n v.1 v.2.1 v.2.2
def f139.O (n:Nat):Orc:=orcOf (E:=E) [f167.w] [] n
theorem f139.ok:FnS 139 f139.P sg_lb f139.A f139.F:=fnS c139 f139.O
def f139.w:FnW E:=fnW 139 f139.P sg_lb f139.A f139.F f139.ok
def f102.l0 (n:Nat):Nat→Nat→List T→Nat→List T→Bool→Nat→List T→Nat→List T→Int→Int→Option (Nat × List T)
 | 0,_,_,_,_,_,_,_,_,_,_,_=>none
 | m+1,n1,l2,n3,l4,b5,n6,l7,n8,l9,i10,i11 =>
   br (decide (i11<i10)) (
    gd ((decide ((0≤i11)∧(i11<(n8:Int))))&&(okAt [CK.bool] l9 (Int.toNat i11))) (
    let b12:=(bAt l9 (Int.toNat i11))
    br (!b12) (
     gd ((decide ((0≤i11)∧(i11<(n3:Int))))&&(okAt [CK.bool] l4 (Int.toNat i11))) (
     br (bAt l4 (Int.toNat i11)) (
      gd (Nat.ble (n6+1) 2147483648) (
      let n13:=(n6+1)
      let l14:=(l7++(setN (reps 1 [(T.bool false)]) 0 [(T.bool true)]))
      f102.l0 n m n1 l2 n3 l4 b5 n13 l14 n8 l9 i10 (IntKind.i64.wrap (i11+(1:Int))))) (
      gd (Nat.ble (n6+1) 2147483648) (
      let n15:=(n6+1)
      let l16:=(l7++(setN (reps 1 [(T.bool false)]) 0 [(T.bool (!b5))]))
      f102.l0 n m n1 l2 n3 l4 b5 n15 l16 n8 l9 i10 (IntKind.i64.wrap (i11+(1:Int))))))) (
     gd (Nat.ble (n6+1) 2147483648) (
     let n17:=(n6+1)
     let l18:=(l7++(setN (reps 1 [(T.bool false)]) 0 [(T.bool false)]))
     f102.l0 n m n1 l2 n3 l4 b5 n17 l18 n8 l9 i10 (IntKind.i64.wrap (i11+(1:Int))))))) (
    some (n6,l7))
def f102:Nat→Nat→List T→Nat→List T→Option (Nat × List T)
 | 0,_,_,_,_=>none
 | n+1,n1,l2,n3,l4 =>
   bd (f139 n n3 l4 true) fun r5 =>
   let b6:=r5
   bd (f102.l0 n n n1 l2 n3 l4 b6 0 [] n1 l2 (n1:Int) (0:Int)) fun r7 =>
   let n8:=r7.1
   let l9:=r7.2
   some (n8,l9)
def sg_llbllii:Sig (Nat × List T × Nat × List T × Bool × Nat × List T × Nat × List T × Int × Int) where
 pk:=fun v=>[.lst v.1 v.2.1,.lst v.2.2.1 v.2.2.2.1,.bool v.2.2.2.2.1,.lst v.2.2.2.2.2.1 v.2.2.2.2.2.2.1,.lst v.2.2.2.2.2.2.2.1 v.2.2.2.2.2.2.2.2.1,.int v.2.2.2.2.2.2.2.2.2.1,.int v.2.2.2.2.2.2.2.2.2.2]
 up:=fun ls=>match ls with
  | [.lst a0 a1,.lst a2 a3,.bool a4,.lst a5 a6,.lst a7 a8,.int a9,.int a10]=>some (a0,a1,a2,a3,a4,a5,a6,a7,a8,a9,a10)
  | _=>none
 ok:=by intro _ _ h;split at h <;>cases h;rfl
def f102.l0.P:AS:=⟨[(0,qS40),(1,qS40),(5,qS43),(6,qS41),(11,qS40),(12,qS42),(13,qS42)],0⟩
def f102.l0.A:Alt (Nat × List T):=.one (.exit 0) ⟨[(6,qS41)],0⟩ sg_l
def f102.l0.F (n m:Nat) (v:Nat × List T × Nat × List T × Bool × Nat × List T × Nat × List T × Int × Int):=f102.l0 n m v.1 v.2.1 v.2.2.1 v.2.2.2.1 v.2.2.2.2.1 v.2.2.2.2.2.1 v.2.2.2.2.2.2.1 v.2.2.2.2.2.2.2.1 v.2.2.2.2.2.2.2.2.1 v.2.2.2.2.2.2.2.2.2.1 v.2.2.2.2.2.2.2.2.2.2
def f102.l0.W (n:Nat):LpW:=.of 64 f102.l0.P sg_llbllii f102.l0.A (f102.l0.F n n)
def f102.P:List Arg:=[qA18,qA18]
def f102.A:RAlt (Nat × List T):=.one ⟨[qV13],[none,none]⟩ sg_l
def f102.F (n:Nat) (v:Nat × List T × Nat × List T):=f102 n v.1 v.2.1 v.2.2.1 v.2.2.2
def f102.O (n:Nat):Orc:=orcOf (E:=E) [f139.w] [f102.l0.W n] n
theorem f102.l0.ok:∀ n,LpS 102 c102 0 n (f102.O n):=lpS f102.l0.P sg_llbllii f102.l0.A f102.l0.F
theorem f102.ok:FnS 102 f102.P sg_ll f102.A f102.F:=fnS c102 f102.O [loopAt c102 0] (fun n=>(.cons (f102.l0.ok n) .nil))
def f102.w:FnW E:=fnW 102 f102.P sg_ll f102.A f102.F f102.ok
def f71:Nat→Nat→List T→Option (Nat × List T)
 | 0,_,_=>none
 | n+1,n1,l2 =>
   bd (f71.l0 n n n1 l2 0 [] 0 [] n1 l2 (n1:Int) (0:Int)) fun r3 =>
   let n4:=r3.1
   let l5:=r3.2.1
   let n6:=r3.2.2.1
   let l7:=r3.2.2.2
   bd (f102 n n4 l5 n6 l7) fun r8 =>
   let n9:=r8.1
   let l10:=r8.2
   some (n9,l10)
def sg_llllii:Sig (Nat × List T × Nat × List T × Nat × List T × Nat × List T × Int × Int) where
 pk:=fun v=>[.lst v.1 v.2.1,.lst v.2.2.1 v.2.2.2.1,.lst v.2.2.2.2.1 v.2.2.2.2.2.1,.lst v.2.2.2.2.2.2.1 v.2.2.2.2.2.2.2.1,.int v.2.2.2.2.2.2.2.2.1,.int v.2.2.2.2.2.2.2.2.2]
 up:=fun ls=>match ls with
  | [.lst a0 a1,.lst a2 a3,.lst a4 a5,.lst a6 a7,.int a8,.int a9]=>some (a0,a1,a2,a3,a4,a5,a6,a7,a8,a9)
  | _=>none
 ok:=by intro _ _ h;split at h <;>cases h;rfl
def f71.l0.P:AS:=⟨[(0,qS33),(3,qS41),(4,qS41),(7,qS33),(8,qS42),(9,qS42)],0⟩
def f71.l0.A:Alt (Nat × List T × Nat × List T):=.one (.exit 0) ⟨[(3,qS41),(4,qS41)],0⟩ sg_ll
def f71.l0.F (n m:Nat) (v:Nat × List T × Nat × List T × Nat × List T × Nat × List T × Int × Int):=f71.l0 n m v.1 v.2.1 v.2.2.1 v.2.2.2.1 v.2.2.2.2.1 v.2.2.2.2.2.1 v.2.2.2.2.2.2.1 v.2.2.2.2.2.2.2.1 v.2.2.2.2.2.2.2.2.1 v.2.2.2.2.2.2.2.2.2
def f71.l0.W (n:Nat):LpW:=.of 48 f71.l0.P sg_llllii f71.l0.A (f71.l0.F n n)
def f71.P:List Arg:=[qA28]
def f71.A:RAlt (Nat × List T):=.one ⟨[qV13],[none]⟩ sg_l
def f71.F (n:Nat) (v:Nat × List T):=f71 n v.1 v.2
def f71.O (n:Nat):Orc:=orcOf (E:=E) [f102.w] [f71.l0.W n] n
theorem f71.l0.ok:∀ n,LpS 71 c71 0 n (f71.O n):=lpS f71.l0.P sg_llllii f71.l0.A f71.l0.F
theorem f71.ok:FnS 71 f71.P sg_l f71.A f71.F:=fnS c71 f71.O [loopAt c71 0] (fun n=>(.cons (f71.l0.ok n) .nil))
def f71.w:FnW E:=fnW 71 f71.P sg_l f71.A f71.F f71.ok
def f103.l0 (n:Nat):Nat→Nat→Nat→Nat→Option (Nat)
 | 0,_,_,_=>none
 | m+1,x1,x2,x3 =>
   br (fge .f64 x3 4607182418800017408) (
    let x4:=(fadd .f64 4607182418800017408 (fdiv .f64 (fmul .f64 x1 x2) x3))
    f103.l0 n m x1 x4 (fsub .f64 x3 4607182418800017408)) (
    some x2)
def f103.l1 (n:Nat):Nat→Nat→Int→Option (Nat)
 | 0,_,_=>none
 | m+1,x1,i2 =>
   br (decide (i2<(8:Int))) (
    let x3:=(fmul .f64 x1 x1)
    f103.l1 n m x3 (IntKind.i64.wrap (i2+(1:Int)))) (
    some x1)
def f103:Nat→Nat→Option (Nat)
 | 0,_=>none
 | n+1,x1 =>
   br (fgt .f64 x1 4641240890982006784) (
    bd (f140 n (1:Int)) fun r2 =>
    let x3:=r2
    some x3) (
    br (flt .f64 x1 13864612927836782592) (
     some 0) (
     let x4:=(fdiv .f64 x1 4643211215818981376)
     bd (f103.l0 n n x4 4607182418800017408 4622945017495814144) fun r5 =>
     let x6:=r5
     bd (f103.l1 n n x6 (0:Int)) fun r7 =>
     let x8:=r7
     some x8))
def f103.l0.P:AS:=⟨[(3,qS45),(4,qS45),(5,qS45)],0⟩
def f103.l0.A:Alt (Nat):=.one (.exit 1) ⟨[(4,qS45)],0⟩ sg_f
def f103.l0.F (n m:Nat) (v:Nat × Nat × Nat):=f103.l0 n m v.1 v.2.1 v.2.2
def f103.l0.W (n:Nat):LpW:=.of 112 f103.l0.P sg_fff f103.l0.A (f103.l0.F n n)
def f103.l1.P:AS:=⟨[(4,qS45),(6,qS42)],0⟩
def f103.l1.A:Alt (Nat):=.one (.exit 3) ⟨[(4,qS45)],0⟩ sg_f
def f103.l1.F (n m:Nat) (v:Nat × Int):=f103.l1 n m v.1 v.2
def f103.l1.W (n:Nat):LpW:=.of 176 f103.l1.P sg_fi f103.l1.A (f103.l1.F n n)
def f103.P:List Arg:=[qA22]
def f103.A:RAlt (Nat):=.one ⟨[qV17],[none]⟩ sg_f
def f103.F (n:Nat) (v:Nat):=f103 n v
def f103.O (n:Nat):Orc:=orcOf (E:=E) [f140.w] [f103.l0.W n,f103.l1.W n] n
theorem f103.l0.ok:∀ n,LpS 103 c103 0 n (f103.O n):=lpS f103.l0.P sg_fff f103.l0.A f103.l0.F
theorem f103.l1.ok:∀ n,LpS 103 c103 1 n (f103.O n):=lpS f103.l1.P sg_fi f103.l1.A f103.l1.F
theorem f103.ok:FnS 103 f103.P sg_f f103.A f103.F:=fnS c103 f103.O [loopAt c103 0,loopAt c103 1] (fun n=>(.cons (f103.l0.ok n) (.cons (f103.l1.ok n) .nil)))
def f103.w:FnW E:=fnW 103 f103.P sg_f f103.A f103.F f103.ok
def f72:Nat→Int→Option (Nat × Bool)
 | 0,_=>none
 | n+1,i1 =>
   bd (f64 n i1) fun r2 =>
   let b3:=r2
   br (!b3) (
    some (0,false)) (
    bd (f103 n (fmul .f64 (FloatKind.nearest .f64 i1) 4577790371455803420)) fun r4 =>
    let x5:=r4
    bd ((fltToFlt .f64 x5 .f32)) fun y6 =>
    some (y6,true))
def f72.P:List Arg:=[qA19]
def f72.A:RAlt (Nat × Bool):=.one ⟨[qV16,qV15],[none]⟩ sg_fb
def f72.F (n:Nat) (v:Int):=f72 n v
def f72.O (n:Nat):Orc:=orcOf (E:=E) [f64.w,f103.w] [] n
theorem f72.ok:FnS 72 f72.P sg_i f72.A f72.F:=fnS c72 f72.O
def f72.w:FnW E:=fnW 72 f72.P sg_i f72.A f72.F f72.ok
def f141:Nat→Nat→Option (Bool)
 | 0,_=>none
 | n+1,x1 =>
   some (feq .f64 (fsub .f64 x1 x1) 0)
def f141.P:List Arg:=[qA22]
def f141.A:RAlt (Bool):=.one ⟨[qV15],[none]⟩ sg_b
def f141.F (n:Nat) (v:Nat):=f141 n v
def f141.O (n:Nat):Orc:=orcOf (E:=E) [] [] n
theorem f141.ok:FnS 141 f141.P sg_f f141.A f141.F:=fnS c141 f141.O
def f141.w:FnW E:=fnW 141 f141.P sg_f f141.A f141.F f141.ok
def f143:Nat→Nat→Option (Bool)
 | 0,_=>none
 | n+1,x1 =>
   bd (xAbs n x1) fun r2 =>
   let x3:=r2
   some (fge .f64 x3 4841369599423283200)
def f143.P:List Arg:=[qA22]
def f143.A:RAlt (Bool):=.one ⟨[qV15],[none]⟩ sg_b
def f143.F (n:Nat) (v:Nat):=f143 n v
def f143.O (n:Nat):Orc:=orcOf (E:=E) [x169.w] [] n
theorem f143.ok:FnS 143 f143.P sg_f f143.A f143.F:=fnS c143 f143.O
def f143.w:FnW E:=fnW 143 f143.P sg_f f143.A f143.F f143.ok
def f178:Nat→Nat→Option (Nat)
 | 0,_=>none
 | n+1,x1 =>
   bd (xIntegral_zero n x1) fun r2 =>
   let x3:=r2
   some x3
def f178.P:List Arg:=[qA22]
def f178.A:RAlt (Nat):=.one ⟨[qV17],[none]⟩ sg_f
def f178.F (n:Nat) (v:Nat):=f178 n v
def f178.O (n:Nat):Orc:=orcOf (E:=E) [x179.w] [] n
theorem f178.ok:FnS 178 f178.P sg_f f178.A f178.F:=fnS c178 f178.O
def f178.w:FnW E:=fnW 178 f178.P sg_f f178.A f178.F f178.ok
def f170:Nat→Nat→Option (Nat)
 | 0,_=>none
 | n+1,x1 =>
   bd (f178 n x1) fun r2 =>
   let x3:=r2
   br (feq .f64 x3 0) (
    let x4:=(fsub .f64 x1 0)
    br (flt .f64 x4 0) (
     let x5:=(fadd .f64 x4 4607182418800017408)
     some x5) (
     some x4)) (
    let x6:=(fsub .f64 x1 x3)
    br (flt .f64 x6 0) (
     let x7:=(fadd .f64 x6 4607182418800017408)
     some x7) (
     some x6))
def f170.P:List Arg:=[qA22]
def f170.A:RAlt (Nat):=.one ⟨[qV17],[none]⟩ sg_f
def f170.F (n:Nat) (v:Nat):=f170 n v
def f170.O (n:Nat):Orc:=orcOf (E:=E) [f178.w] [] n
theorem f170.ok:FnS 170 f170.P sg_f f170.A f170.F:=fnS c170 f170.O
def f170.w:FnW E:=fnW 170 f170.P sg_f f170.A f170.F f170.ok
def f144.l0 (n:Nat):Nat→Bool→Nat→Nat→Nat→Nat→Option (Bool × Nat × Nat)
 | 0,_,_,_,_,_=>none
 | m+1,b1,x2,x3,x4,x5 =>
   br (fge .f64 x5 4607182418800017408) (
    let x6:=(fsub .f64 4607182418800017408 (fdiv .f64 (fmul .f64 x3 x4) (fmul .f64 (fmul .f64 4611686018427387904 x5) (fadd .f64 (fmul .f64 4611686018427387904 x5) 4607182418800017408))))
    f144.l0 n m b1 x2 x3 x6 (fsub .f64 x5 4607182418800017408)) (
    some (b1,x2,x4))
def f144:Nat→Nat→Option (Nat)
 | 0,_=>none
 | n+1,x1 =>
   bd (f170 n x1) fun r2 =>
   let x3:=r2
   let b4:=(fge .f64 x3 4602678819172646912)
   br b4 (
    let x5:=(fsub .f64 x3 4602678819172646912)
    br (fgt .f64 x5 4598175219545276416) (
     let x6:=(fsub .f64 4602678819172646912 x5)
     let x7:=(fmul .f64 x6 4618760256179416344)
     let x8:=(fmul .f64 x7 x7)
     bd (f144.l0 n n b4 x7 x8 4607182418800017408 4620693217682128896) fun r9 =>
     let b10:=r9.1
     let x11:=r9.2.1
     let x12:=r9.2.2
     br b10 (
      some (negF .f64 (fmul .f64 x11 x12))) (
      some (fmul .f64 x11 x12))) (
     let x13:=(fmul .f64 x5 4618760256179416344)
     let x14:=(fmul .f64 x13 x13)
     bd (f144.l0 n n b4 x13 x14 4607182418800017408 4620693217682128896) fun r15 =>
     let b16:=r15.1
     let x17:=r15.2.1
     let x18:=r15.2.2
     br b16 (
      some (negF .f64 (fmul .f64 x17 x18))) (
      some (fmul .f64 x17 x18)))) (
    br (fgt .f64 x3 4598175219545276416) (
     let x19:=(fsub .f64 4602678819172646912 x3)
     let x20:=(fmul .f64 x19 4618760256179416344)
     let x21:=(fmul .f64 x20 x20)
     bd (f144.l0 n n b4 x20 x21 4607182418800017408 4620693217682128896) fun r22 =>
     let b23:=r22.1
     let x24:=r22.2.1
     let x25:=r22.2.2
     br b23 (
      some (negF .f64 (fmul .f64 x24 x25))) (
      some (fmul .f64 x24 x25))) (
     let x26:=(fmul .f64 x3 4618760256179416344)
     let x27:=(fmul .f64 x26 x26)
     bd (f144.l0 n n b4 x26 x27 4607182418800017408 4620693217682128896) fun r28 =>
     let b29:=r28.1
     let x30:=r28.2.1
     let x31:=r28.2.2
     br b29 (
      some (negF .f64 (fmul .f64 x30 x31))) (
      some (fmul .f64 x30 x31))))
def sg_bffff:Sig (Bool × Nat × Nat × Nat × Nat) where
 pk:=fun v=>[.bool v.1,.flt v.2.1,.flt v.2.2.1,.flt v.2.2.2.1,.flt v.2.2.2.2]
 up:=fun ls=>match ls with
  | [.bool a0,.flt a1,.flt a2,.flt a3,.flt a4]=>some (a0,a1,a2,a3,a4)
  | _=>none
 ok:=by intro _ _ h;split at h <;>cases h;rfl
def f144.l0.P:AS:=⟨[(4,qS43),(5,qS45),(6,qS45),(7,qS45),(8,qS45)],0⟩
def f144.l0.A:Alt (Bool × Nat × Nat):=.one (.exit 0) ⟨[(4,qS43),(5,qS45),(7,qS45)],0⟩ sg_bff
def f144.l0.F (n m:Nat) (v:Bool × Nat × Nat × Nat × Nat):=f144.l0 n m v.1 v.2.1 v.2.2.1 v.2.2.2.1 v.2.2.2.2
def f144.l0.W (n:Nat):LpW:=.of 176 f144.l0.P sg_bffff f144.l0.A (f144.l0.F n n)
def f144.P:List Arg:=[qA22]
def f144.A:RAlt (Nat):=.one ⟨[qV17],[none]⟩ sg_f
def f144.F (n:Nat) (v:Nat):=f144 n v
def f144.O (n:Nat):Orc:=orcOf (E:=E) [f170.w] [f144.l0.W n] n
theorem f144.l0.ok:∀ n,LpS 144 c144 0 n (f144.O n):=lpS f144.l0.P sg_bffff f144.l0.A f144.l0.F
theorem f144.ok:FnS 144 f144.P sg_f f144.A f144.F:=fnS c144 f144.O [loopAt c144 0] (fun n=>(.cons (f144.l0.ok n) .nil))
def f144.w:FnW E:=fnW 144 f144.P sg_f f144.A f144.F f144.ok
def f104:Nat→Nat→Option (Nat)
 | 0,_=>none
 | n+1,x1 =>
   bd ((fltToFlt .f32 x1 .f64)) fun y2 =>
   bd (f141 n y2) fun r3 =>
   let b4:=r3
   br (!b4) (
    bd (f142 n) fun r5 =>
    let x6:=r5
    bd ((fltToFlt .f64 x6 .f32)) fun y7 =>
    some y7) (
    bd (f143 n y2) fun r8 =>
    let b9:=r8
    br b9 (
     some 0) (
     bd (f144 n y2) fun r10 =>
     let x11:=r10
     bd ((fltToFlt .f64 x11 .f32)) fun y12 =>
     some y12))
def f104.P:List Arg:=[qA20]
def f104.A:RAlt (Nat):=.one ⟨[qV16],[none]⟩ sg_f
def f104.F (n:Nat) (v:Nat):=f104 n v
def f104.O (n:Nat):Orc:=orcOf (E:=E) [f142.w,f141.w,f143.w,f144.w] [] n
theorem f104.ok:FnS 104 f104.P sg_f f104.A f104.F:=fnS c104 f104.O
def f104.w:FnW E:=fnW 104 f104.P sg_f f104.A f104.F f104.ok
def f73:Nat→Nat→Option (Nat × Nat × Bool)
 | 0,_=>none
 | n+1,x1 =>
   bd (f65 n x1) fun r2 =>
   let b3:=r2
   br (!b3) (
    some (0,0,false)) (
    bd (f104 n (fdiv .f32 (fsub .f32 1065353216 x1) 1082130432)) fun r4 =>
    let x5:=r4
    bd (f104 n (fdiv .f32 x1 1082130432)) fun r6 =>
    let x7:=r6
    some (x5,x7,true))
def sg_ffb:Sig (Nat × Nat × Bool) where
 pk:=fun v=>[.flt v.1,.flt v.2.1,.bool v.2.2]
 up:=fun ls=>match ls with
  | [.flt a0,.flt a1,.bool a2]=>some (a0,a1,a2)
  | _=>none
 ok:=by intro _ _ h;split at h <;>cases h;rfl
def f73.P:List Arg:=[qA20]
def f73.A:RAlt (Nat × Nat × Bool):=.one ⟨[qV16,qV16,qV15],[none]⟩ sg_ffb
def f73.F (n:Nat) (v:Nat):=f73 n v
def f73.O (n:Nat):Orc:=orcOf (E:=E) [f65.w,f104.w] [] n
theorem f73.ok:FnS 73 f73.P sg_f f73.A f73.F:=fnS c73 f73.O
def f73.w:FnW E:=fnW 73 f73.P sg_f f73.A f73.F f73.ok
def f28.l1 (n:Nat):Nat→Nat→List T→Int→Nat→List T→Nat→List T→Nat→List T→Nat→Nat→Nat→Nat→List T→Int→Int→Nat→List T→Int→Int→Option (Nat × List T × Int × Nat × List T × Nat × List T × Nat × List T × Nat × List T × Int × Int)
 | 0,_,_,_,_,_,_,_,_,_,_,_,_,_,_,_,_,_,_,_,_=>none
 | m+1,n1,l2,i3,n4,l5,n6,l7,n8,l9,x10,x11,x12,n13,l14,i15,i16,n17,l18,i19,i20 =>
   br (decide (i20<i19)) (
    gd ((decide ((0≤i20)∧(i20<(n17:Int))))&&(okAt [(CK.flt .f32)] l18 (Int.toNat i20))) (
    let x21:=(fAt l18 (Int.toNat i20))
    let x22:=(fmul .f32 x21 x10)
    gd (decide ((0≤i20)∧(i20<(n4:Int)))) (
    gd (okAt [(CK.flt .f32)] l5 (Int.toNat i20)) (
    gd (decide ((0≤i20)∧(i20<(n4:Int)))) (
    gd (Nat.ble ((Int.toNat i20)+1) (List.length l5)) (
    let l23:=(setN l5 (Int.toNat i20) [(T.flt .f32 (fadd .f32 (fAt l5 (Int.toNat i20)) (fmul .f32 x22 x11)))])
    gd (decide ((0≤i20)∧(i20<(n6:Int)))) (
    gd (okAt [(CK.flt .f32)] l7 (Int.toNat i20)) (
    gd (decide ((0≤i20)∧(i20<(n6:Int)))) (
    gd (Nat.ble ((Int.toNat i20)+1) (List.length l7)) (
    let l24:=(setN l7 (Int.toNat i20) [(T.flt .f32 (fadd .f32 (fAt l7 (Int.toNat i20)) (fmul .f32 x22 x12)))])
    f28.l1 n m n1 l2 i3 n4 l23 n6 l24 n8 l9 x10 x11 x12 n13 l14 i15 i16 n17 l18 i19 (IntKind.i64.wrap (i20+(1:Int))))))))))))) (
    some (n1,l2,i3,n4,l5,n6,l7,n8,l9,n13,l14,i15,i16))
termination_by structural x=>x
def f28.l0 (n:Nat):Nat→Nat→List T→Int→Nat→List T→Nat→List T→Nat→List T→Nat→List T→Int→Int→Option (Nat × List T × Nat × List T)
 | 0,_,_,_,_,_,_,_,_,_,_,_,_,_=>none
 | m+1,n1,l2,i3,n4,l5,n6,l7,n8,l9,n10,l11,i12,i13 =>
   br (decide (i13<i12)) (
    gd ((decide ((0≤i13)∧(i13<(n10:Int))))&&(okAt [CK.lst,(CK.int .i64),(CK.flt .f32),CK.bool,CK.bool] l11 (((Int.toNat i13) * 5)+0))) (
    let n14:=(nAt l11 (((Int.toNat i13) * 5)+0))
    let l15:=(lAt l11 (((Int.toNat i13) * 5)+0))
    let i16:=(iAt l11 ((((Int.toNat i13) * 5)+0)+1))
    let x17:=(fAt l11 (((((Int.toNat i13) * 5)+0)+1)+1))
    let b18:=(bAt l11 ((((((Int.toNat i13) * 5)+0)+1)+1)+1))
    let b19:=(bAt l11 (((((((Int.toNat i13) * 5)+0)+1)+1)+1)+1))
    gd (decide ((0≤i13)∧(i13<(n8:Int)))) (
    gd (okAt [CK.bool] l9 (Int.toNat i13)) (
    br (!(bAt l9 (Int.toNat i13))) (
     f28.l0 n m n1 l2 i3 n4 l5 n6 l7 n8 l9 n10 l11 i12 (IntKind.i64.wrap (i13+(1:Int)))) (
     bd (f72 n i16) fun r20 =>
     let x21:=r20.1
     bd (f73 n x17) fun r23 =>
     let x24:=r23.1
     let x25:=r23.2.1
     bd (f32 n (n14:Int)) fun r27 =>
     let i28:=r27
     gd (decide ((0≤(0:Int))∧(((0:Int)≤(if (i28<i3) then i28 else i3))∧((if (i28<i3) then i28 else i3)≤(n14:Int))))) (
     bd (f28.l1 n n n1 l2 i3 n4 l5 n6 l7 n8 l9 x21 x24 x25 n10 l11 i12 i13 ((Int.toNat (if (i28<i3) then i28 else i3)) - 0) (List.take ((Int.toNat (if (i28<i3) then i28 else i3)) - 0) (List.drop 0 l15)) ((((Int.toNat (if (i28<i3) then i28 else i3)) - 0):Nat):Int) (0:Int)) fun r29 =>
     let n30:=r29.1
     let l31:=r29.2.1
     let i32:=r29.2.2.1
     let n33:=r29.2.2.2.1
     let l34:=r29.2.2.2.2.1
     let n35:=r29.2.2.2.2.2.1
     let l36:=r29.2.2.2.2.2.2.1
     let n37:=r29.2.2.2.2.2.2.2.1
     let l38:=r29.2.2.2.2.2.2.2.2.1
     let n39:=r29.2.2.2.2.2.2.2.2.2.1
     let l40:=r29.2.2.2.2.2.2.2.2.2.2.1
     let i41:=r29.2.2.2.2.2.2.2.2.2.2.2.1
     let i42:=r29.2.2.2.2.2.2.2.2.2.2.2.2
     f28.l0 n m n30 l31 i32 n33 l34 n35 l36 n37 l38 n39 l40 i41 (IntKind.i64.wrap (i42+(1:Int))))))))) (
    some (n4,l5,n6,l7))
termination_by structural x=>x
def f28:Nat→Nat→List T→Int→Option (Nat × List T × Nat × List T)
 | 0,_,_,_=>none
 | n+1,n1,l2,i3 =>
   bd (f70 n i3) fun r4 =>
   let n5:=r4.1
   let l6:=r4.2
   bd (f70 n i3) fun r7 =>
   let n8:=r7.1
   let l9:=r7.2
   bd (f71 n n1 l2) fun r10 =>
   let n11:=r10.1
   let l12:=r10.2
   bd (f28.l0 n n n1 l2 i3 n5 l6 n8 l9 n11 l12 n1 l2 (n1:Int) (0:Int)) fun r13 =>
   let n14:=r13.1
   let l15:=r13.2.1
   let n16:=r13.2.2.1
   let l17:=r13.2.2.2
   some (n14,l15,n16,l17)
def sg_lilllfffliilii:Sig (Nat × List T × Int × Nat × List T × Nat × List T × Nat × List T × Nat × Nat × Nat × Nat × List T × Int × Int × Nat × List T × Int × Int) where
 pk:=fun v=>[.lst v.1 v.2.1,.int v.2.2.1,.lst v.2.2.2.1 v.2.2.2.2.1,.lst v.2.2.2.2.2.1 v.2.2.2.2.2.2.1,.lst v.2.2.2.2.2.2.2.1 v.2.2.2.2.2.2.2.2.1,.flt v.2.2.2.2.2.2.2.2.2.1,.flt v.2.2.2.2.2.2.2.2.2.2.1,.flt v.2.2.2.2.2.2.2.2.2.2.2.1,.lst v.2.2.2.2.2.2.2.2.2.2.2.2.1 v.2.2.2.2.2.2.2.2.2.2.2.2.2.1,.int v.2.2.2.2.2.2.2.2.2.2.2.2.2.2.1,.int v.2.2.2.2.2.2.2.2.2.2.2.2.2.2.2.1,.lst v.2.2.2.2.2.2.2.2.2.2.2.2.2.2.2.2.1 v.2.2.2.2.2.2.2.2.2.2.2.2.2.2.2.2.2.1,.int v.2.2.2.2.2.2.2.2.2.2.2.2.2.2.2.2.2.2.1,.int v.2.2.2.2.2.2.2.2.2.2.2.2.2.2.2.2.2.2.2]
 up:=fun ls=>match ls with
  | [.lst a0 a1,.int a2,.lst a3 a4,.lst a5 a6,.lst a7 a8,.flt a9,.flt a10,.flt a11,.lst a12 a13,.int a14,.int a15,.lst a16 a17,.int a18,.int a19]=>some (a0,a1,a2,a3,a4,a5,a6,a7,a8,a9,a10,a11,a12,a13,a14,a15,a16,a17,a18,a19)
  | _=>none
 ok:=by intro _ _ h;split at h <;>cases h;rfl
def sg_lillllii:Sig (Nat × List T × Int × Nat × List T × Nat × List T × Nat × List T × Nat × List T × Int × Int) where
 pk:=fun v=>[.lst v.1 v.2.1,.int v.2.2.1,.lst v.2.2.2.1 v.2.2.2.2.1,.lst v.2.2.2.2.2.1 v.2.2.2.2.2.2.1,.lst v.2.2.2.2.2.2.2.1 v.2.2.2.2.2.2.2.2.1,.lst v.2.2.2.2.2.2.2.2.2.1 v.2.2.2.2.2.2.2.2.2.2.1,.int v.2.2.2.2.2.2.2.2.2.2.2.1,.int v.2.2.2.2.2.2.2.2.2.2.2.2]
 up:=fun ls=>match ls with
  | [.lst a0 a1,.int a2,.lst a3 a4,.lst a5 a6,.lst a7 a8,.lst a9 a10,.int a11,.int a12]=>some (a0,a1,a2,a3,a4,a5,a6,a7,a8,a9,a10,a11,a12)
  | _=>none
 ok:=by intro _ _ h;split at h <;>cases h;rfl
def f28.l1.P:AS:=⟨[(0,qS33),(1,qS42),(6,qS41),(7,qS41),(8,qS41),(11,qS44),(13,qS44),(14,qS44),(25,qS33),(26,qS42),(27,qS42),(58,qS40),(59,qS42),(60,qS42)],0⟩
def f28.l1.A:Alt (Nat × List T × Int × Nat × List T × Nat × List T × Nat × List T × Nat × List T × Int × Int):=.one (.exit 2) ⟨[(0,qS33),(1,qS42),(6,qS41),(7,qS41),(8,qS41),(25,qS33),(26,qS42),(27,qS42),(86,.dead),(87,.dead)],0⟩ sg_lillllii
def f28.l1.F (n m:Nat) (v:Nat × List T × Int × Nat × List T × Nat × List T × Nat × List T × Nat × Nat × Nat × Nat × List T × Int × Int × Nat × List T × Int × Int):=f28.l1 n m v.1 v.2.1 v.2.2.1 v.2.2.2.1 v.2.2.2.2.1 v.2.2.2.2.2.1 v.2.2.2.2.2.2.1 v.2.2.2.2.2.2.2.1 v.2.2.2.2.2.2.2.2.1 v.2.2.2.2.2.2.2.2.2.1 v.2.2.2.2.2.2.2.2.2.2.1 v.2.2.2.2.2.2.2.2.2.2.2.1 v.2.2.2.2.2.2.2.2.2.2.2.2.1 v.2.2.2.2.2.2.2.2.2.2.2.2.2.1 v.2.2.2.2.2.2.2.2.2.2.2.2.2.2.1 v.2.2.2.2.2.2.2.2.2.2.2.2.2.2.2.1 v.2.2.2.2.2.2.2.2.2.2.2.2.2.2.2.2.1 v.2.2.2.2.2.2.2.2.2.2.2.2.2.2.2.2.2.1 v.2.2.2.2.2.2.2.2.2.2.2.2.2.2.2.2.2.2.1 v.2.2.2.2.2.2.2.2.2.2.2.2.2.2.2.2.2.2.2
def f28.l1.W (n:Nat):LpW:=.of 160 f28.l1.P sg_lilllfffliilii f28.l1.A (f28.l1.F n n)
def f28.l0.P:AS:=⟨[(0,qS33),(1,qS42),(6,qS41),(7,qS41),(8,qS41),(25,qS33),(26,qS42),(27,qS42)],0⟩
def f28.l0.A:Alt (Nat × List T × Nat × List T):=.one (.exit 0) ⟨[(6,qS41),(7,qS41)],0⟩ sg_ll
def f28.l0.F (n m:Nat) (v:Nat × List T × Int × Nat × List T × Nat × List T × Nat × List T × Nat × List T × Int × Int):=f28.l0 n m v.1 v.2.1 v.2.2.1 v.2.2.2.1 v.2.2.2.2.1 v.2.2.2.2.2.1 v.2.2.2.2.2.2.1 v.2.2.2.2.2.2.2.1 v.2.2.2.2.2.2.2.2.1 v.2.2.2.2.2.2.2.2.2.1 v.2.2.2.2.2.2.2.2.2.2.1 v.2.2.2.2.2.2.2.2.2.2.2.1 v.2.2.2.2.2.2.2.2.2.2.2.2
def f28.l0.W (n:Nat):LpW:=.of 64 f28.l0.P sg_lillllii f28.l0.A (f28.l0.F n n)
def f28.P:List Arg:=[qA28,qA19]
def f28.A:RAlt (Nat × List T × Nat × List T):=.one ⟨[qV13,qV13],[none,none]⟩ sg_ll
def f28.F (n:Nat) (v:Nat × List T × Int):=f28 n v.1 v.2.1 v.2.2
def f28.O (n:Nat):Orc:=orcOf (E:=E) [f32.w,f70.w,f71.w,f72.w,f73.w] [f28.l1.W n,f28.l0.W n] n
theorem f28.l1.ok:∀ n,LpS 28 c28 1 n (f28.O n):=lpS f28.l1.P sg_lilllfffliilii f28.l1.A f28.l1.F
theorem f28.l0.ok:∀ n,LpS 28 c28 0 n (f28.O n):=lpS f28.l0.P sg_lillllii f28.l0.A f28.l0.F [loopAt c28 1] (fun n=>(.cons (f28.l1.ok n) .nil))
theorem f28.ok:FnS 28 f28.P sg_li f28.A f28.F:=fnS c28 f28.O [loopAt c28 0] (fun n=>(.cons (f28.l0.ok n) .nil))
def f28.w:FnW E:=fnW 28 f28.P sg_li f28.A f28.F f28.ok
def f9:Nat→Nat→List T→Nat→List T→Int→Option (Nat × List T × Nat × List T × Bool)
 | 0,_,_,_,_,_=>none
 | n+1,n1,l2,n3,l4,i5 =>
   bd (f25 n n1 l2 n3 l4) fun r6 =>
   let b7:=r6
   br (!b7) (
    some (0,[],0,[],false)) (
    bd (f26 n i5) fun r8 =>
    let b9:=r8
    br (!b9) (
     some (0,[],0,[],false)) (
     bd (f9.l0 n n i5 n1 l2 n3 l4 0 [] n3 l4 (n3:Int) (0:Int)) fun r10 =>
     let i11:=r10.1
     let n12:=r10.2.1
     let l13:=r10.2.2
     bd (f28 n n12 l13 i11) fun r14 =>
     let n15:=r14.1
     let l16:=r14.2.1
     let n17:=r14.2.2.1
     let l18:=r14.2.2.2
     some (n15,l16,n17,l18,true)))
def sg_illllii:Sig (Int × Nat × List T × Nat × List T × Nat × List T × Nat × List T × Int × Int) where
 pk:=fun v=>[.int v.1,.lst v.2.1 v.2.2.1,.lst v.2.2.2.1 v.2.2.2.2.1,.lst v.2.2.2.2.2.1 v.2.2.2.2.2.2.1,.lst v.2.2.2.2.2.2.2.1 v.2.2.2.2.2.2.2.2.1,.int v.2.2.2.2.2.2.2.2.2.1,.int v.2.2.2.2.2.2.2.2.2.2]
 up:=fun ls=>match ls with
  | [.int a0,.lst a1 a2,.lst a3 a4,.lst a5 a6,.lst a7 a8,.int a9,.int a10]=>some (a0,a1,a2,a3,a4,a5,a6,a7,a8,a9,a10)
  | _=>none
 ok:=by intro _ _ h;split at h <;>cases h;rfl
def sg_il:Sig (Int × Nat × List T) where
 pk:=fun v=>[.int v.1,.lst v.2.1 v.2.2]
 up:=fun ls=>match ls with
  | [.int a0,.lst a1 a2]=>some (a0,a1,a2)
  | _=>none
 ok:=by intro _ _ h;split at h <;>cases h;rfl
def f9.l0.P:AS:=⟨[(1,qS42),(2,.box [.sl .shr [.leaf,.leaf,.sl .shr [.leaf]],.sl .shr [.sl .shr [.leaf,.leaf,.sl .shr [.leaf]],.leaf,.leaf,.leaf,.leaf]] [.lst 0 [],.lst 0 []] [] 0),(7,qS34),(21,qS32),(22,qS42),(23,qS42)],0⟩
def f9.l0.A:Alt (Int × Nat × List T):=.one (.exit 0) ⟨[(1,qS42),(7,qS34)],0⟩ sg_il
def f9.l0.F (n m:Nat) (v:Int × Nat × List T × Nat × List T × Nat × List T × Nat × List T × Int × Int):=f9.l0 n m v.1 v.2.1 v.2.2.1 v.2.2.2.1 v.2.2.2.2.1 v.2.2.2.2.2.1 v.2.2.2.2.2.2.1 v.2.2.2.2.2.2.2.1 v.2.2.2.2.2.2.2.2.1 v.2.2.2.2.2.2.2.2.2.1 v.2.2.2.2.2.2.2.2.2.2
def f9.l0.W (n:Nat):LpW:=.of 80 f9.l0.P sg_illllii f9.l0.A (f9.l0.F n n)
def f9.P:List Arg:=[qA27,qA19]
def f9.A:RAlt (Nat × List T × Nat × List T × Bool):=.one ⟨[qV13,qV13,qV15],[none,none]⟩ sg_llb
def f9.F (n:Nat) (v:Nat × List T × Nat × List T × Int):=f9 n v.1 v.2.1 v.2.2.1 v.2.2.2.1 v.2.2.2.2
def f9.O (n:Nat):Orc:=orcOf (E:=E) [f26.w,f25.w,f27.w,f28.w] [f9.l0.W n] n
theorem f9.l0.ok:∀ n,LpS 9 c9 0 n (f9.O n):=lpS f9.l0.P sg_illllii f9.l0.A f9.l0.F
theorem f9.ok:FnS 9 f9.P sg_lli f9.A f9.F:=fnS c9 f9.O [loopAt c9 0] (fun n=>(.cons (f9.l0.ok n) .nil))
def f9.w:FnW E:=fnW 9 f9.P sg_lli f9.A f9.F f9.ok
def f10:Nat→Nat→List T→Nat→List T→Int→Int→Option (Nat × List T × Nat × List T × Bool)
 | 0,_,_,_,_,_,_=>none
 | n+1,n1,l2,n3,l4,i5,i6 =>
   bd (f29 n i6 (1:Int) (256:Int)) fun r7 =>
   let b8:=r7
   br (!b8) (
    some (0,[],0,[],false)) (
    bd (f9 n n1 l2 n3 l4 i5) fun r9 =>
    let n10:=r9.1
    let l11:=r9.2.1
    let n12:=r9.2.2.1
    let l13:=r9.2.2.2.1
    let b14:=r9.2.2.2.2
    some (n10,l11,n12,l13,b14))
def f10.P:List Arg:=[qA27,qA19,qA19]
def f10.A:RAlt (Nat × List T × Nat × List T × Bool):=.one ⟨[qV13,qV13,qV15],[none,none,none]⟩ sg_llb
def f10.F (n:Nat) (v:Nat × List T × Nat × List T × Int × Int):=f10 n v.1 v.2.1 v.2.2.1 v.2.2.2.1 v.2.2.2.2.1 v.2.2.2.2.2
def f10.O (n:Nat):Orc:=orcOf (E:=E) [f29.w,f9.w] [] n
theorem f10.ok:FnS 10 f10.P sg_llii f10.A f10.F:=fnS c10 f10.O
def f10.w:FnW E:=fnW 10 f10.P sg_llii f10.A f10.F f10.ok
def f49:Nat→Nat→Nat→Option (Bool)
 | 0,_,_=>none
 | n+1,x1,x2 =>
   br (fne .f64 x1 x1) (
    br (fne .f64 x1 x1) (
     some (fne .f64 x2 x2)) (
     some false)) (
    br (fne .f64 x2 x2) (
     br (fne .f64 x1 x1) (
      some (fne .f64 x2 x2)) (
      some false)) (
     br (feq .f64 x1 0) (
      br (feq .f64 x2 0) (
       some ((fgt .f64 (fdiv .f64 4607182418800017408 x1) 0)==(fgt .f64 (fdiv .f64 4607182418800017408 x2) 0))) (
       some (feq .f64 x1 x2))) (
      some (feq .f64 x1 x2))))
def f49.P:List Arg:=[qA22,qA22]
def f49.A:RAlt (Bool):=.one ⟨[qV15],[none,none]⟩ sg_b
def f49.F (n:Nat) (v:Nat × Nat):=f49 n v.1 v.2
def f49.O (n:Nat):Orc:=orcOf (E:=E) [] [] n
theorem f49.ok:FnS 49 f49.P sg_ff f49.A f49.F:=fnS c49 f49.O
def f49.w:FnW E:=fnW 49 f49.P sg_ff f49.A f49.F f49.ok
def f17.l0 (n:Nat):Nat→Nat→List T→Nat→List T→Int→Option ((Bool) ⊕ (Unit))
 | 0,_,_,_,_,_=>none
 | m+1,n1,l2,n3,l4,i5 =>
   br (decide (i5<(n1:Int))) (
    gd ((decide ((0≤i5)∧(i5<(n1:Int))))&&(okAt [(CK.flt .f32)] l2 (Int.toNat i5))) (
    bd ((fltToFlt .f32 (fAt l2 (Int.toNat i5)) .f64)) fun y6 =>
    gd ((decide ((0≤i5)∧(i5<(n3:Int))))&&(okAt [(CK.flt .f32)] l4 (Int.toNat i5))) (
    bd ((fltToFlt .f32 (fAt l4 (Int.toNat i5)) .f64)) fun y7 =>
    bd (f49 n y6 y7) fun r8 =>
    let b9:=r8
    br (!b9) (
     some (Sum.inl false)) (
     f17.l0 n m n1 l2 n3 l4 (IntKind.i64.wrap (i5+(1:Int))))))) (
    some (Sum.inr ()))
def f17:Nat→Nat→List T→Nat→List T→Option (Bool)
 | 0,_,_,_,_=>none
 | n+1,n1,l2,n3,l4 =>
   br ((n1:Int) != (n3:Int)) (
    some false) (
    bd (f17.l0 n n n1 l2 n3 l4 (0:Int)) fun r5 =>
    sm r5 (fun u6 =>
     let b7:=u6
     some b7) (fun u8 =>
     some true))
def f17.l0.P:AS:=⟨[(0,qS40),(1,qS40),(5,qS42)],0⟩
def f17.l0.A:Alt ((Bool) ⊕ (Unit)):=.or (.one .ret ⟨[(4,qS43)],0⟩ sg_b) (.one (.exit 0) ⟨[(4,.dead)],0⟩ sg)
def f17.l0.F (n m:Nat) (v:Nat × List T × Nat × List T × Int):=f17.l0 n m v.1 v.2.1 v.2.2.1 v.2.2.2.1 v.2.2.2.2
def f17.l0.W (n:Nat):LpW:=.of 64 f17.l0.P sg_lli f17.l0.A (f17.l0.F n n)
def f17.P:List Arg:=[qA18,qA18]
def f17.A:RAlt (Bool):=.one ⟨[qV15],[none,none]⟩ sg_b
def f17.F (n:Nat) (v:Nat × List T × Nat × List T):=f17 n v.1 v.2.1 v.2.2.1 v.2.2.2
def f17.O (n:Nat):Orc:=orcOf (E:=E) [f49.w] [f17.l0.W n] n
theorem f17.l0.ok:∀ n,LpS 17 c17 0 n (f17.O n):=lpS f17.l0.P sg_lli f17.l0.A f17.l0.F
theorem f17.ok:FnS 17 f17.P sg_ll f17.A f17.F:=fnS c17 f17.O [loopAt c17 0] (fun n=>(.cons (f17.l0.ok n) .nil))
def f17.w:FnW E:=fnW 17 f17.P sg_ll f17.A f17.F f17.ok
def f90:Nat→Int→Int→Nat→List T→Int→Int→Nat→List T→Option (Bool)
 | 0,_,_,_,_,_,_,_,_=>none
 | n+1,i1,i2,n3,l4,i5,i6,n7,l8 =>
   br (i1 != i5) (
    some false) (
    br (i2 != i6) (
     some false) (
     bd (f17 n n3 l4 n7 l8) fun r9 =>
     let b10:=r9
     br (!b10) (
      some false) (
      some true)))
def sg_iiliil:Sig (Int × Int × Nat × List T × Int × Int × Nat × List T) where
 pk:=fun v=>[.int v.1,.int v.2.1,.lst v.2.2.1 v.2.2.2.1,.int v.2.2.2.2.1,.int v.2.2.2.2.2.1,.lst v.2.2.2.2.2.2.1 v.2.2.2.2.2.2.2]
 up:=fun ls=>match ls with
  | [.int a0,.int a1,.lst a2 a3,.int a4,.int a5,.lst a6 a7]=>some (a0,a1,a2,a3,a4,a5,a6,a7)
  | _=>none
 ok:=by intro _ _ h;split at h <;>cases h;rfl
def f90.P:List Arg:=[qA23,qA23]
def f90.A:RAlt (Bool):=.one ⟨[qV15],[none,none]⟩ sg_b
def f90.F (n:Nat) (v:Int × Int × Nat × List T × Int × Int × Nat × List T):=f90 n v.1 v.2.1 v.2.2.1 v.2.2.2.1 v.2.2.2.2.1 v.2.2.2.2.2.1 v.2.2.2.2.2.2.1 v.2.2.2.2.2.2.2
def f90.O (n:Nat):Orc:=orcOf (E:=E) [f17.w] [] n
theorem f90.ok:FnS 90 f90.P sg_iiliil f90.A f90.F:=fnS c90 f90.O
def f90.w:FnW E:=fnW 90 f90.P sg_iiliil f90.A f90.F f90.ok
def f50.l0 (n:Nat):Nat→Nat→List T→Nat→List T→Int→Option ((Bool) ⊕ (Unit))
 | 0,_,_,_,_,_=>none
 | m+1,n1,l2,n3,l4,i5 =>
   br (decide (i5<(n1:Int))) (
    gd ((decide ((0≤i5)∧(i5<(n1:Int))))&&(okAt [(CK.int .i64),(CK.int .i64),CK.lst] l2 (((Int.toNat i5) * 3)+0))) (
    gd ((decide ((0≤i5)∧(i5<(n3:Int))))&&(okAt [(CK.int .i64),(CK.int .i64),CK.lst] l4 (((Int.toNat i5) * 3)+0))) (
    bd (f90 n (iAt l2 (((Int.toNat i5) * 3)+0)) (iAt l2 ((((Int.toNat i5) * 3)+0)+1)) (nAt l2 (((((Int.toNat i5) * 3)+0)+1)+1)) (lAt l2 (((((Int.toNat i5) * 3)+0)+1)+1)) (iAt l4 (((Int.toNat i5) * 3)+0)) (iAt l4 ((((Int.toNat i5) * 3)+0)+1)) (nAt l4 (((((Int.toNat i5) * 3)+0)+1)+1)) (lAt l4 (((((Int.toNat i5) * 3)+0)+1)+1))) fun r6 =>
    let b7:=r6
    br (!b7) (
     some (Sum.inl false)) (
     f50.l0 n m n1 l2 n3 l4 (IntKind.i64.wrap (i5+(1:Int))))))) (
    some (Sum.inr ()))
def f50:Nat→Nat→List T→Nat→List T→Option (Bool)
 | 0,_,_,_,_=>none
 | n+1,n1,l2,n3,l4 =>
   br ((n1:Int) != (n3:Int)) (
    some false) (
    bd (f50.l0 n n n1 l2 n3 l4 (0:Int)) fun r5 =>
    sm r5 (fun u6 =>
     let b7:=u6
     some b7) (fun u8 =>
     some true))
def f50.l0.P:AS:=⟨[(0,qS35),(1,qS35),(5,qS42)],0⟩
def f50.l0.A:Alt ((Bool) ⊕ (Unit)):=.or (.one .ret ⟨[(4,qS43)],0⟩ sg_b) (.one (.exit 0) ⟨[(4,.dead)],0⟩ sg)
def f50.l0.F (n m:Nat) (v:Nat × List T × Nat × List T × Int):=f50.l0 n m v.1 v.2.1 v.2.2.1 v.2.2.2.1 v.2.2.2.2
def f50.l0.W (n:Nat):LpW:=.of 64 f50.l0.P sg_lli f50.l0.A (f50.l0.F n n)
def f50.P:List Arg:=[qA24,qA24]
def f50.A:RAlt (Bool):=.one ⟨[qV15],[none,none]⟩ sg_b
def f50.F (n:Nat) (v:Nat × List T × Nat × List T):=f50 n v.1 v.2.1 v.2.2.1 v.2.2.2
def f50.O (n:Nat):Orc:=orcOf (E:=E) [f90.w] [f50.l0.W n] n
theorem f50.l0.ok:∀ n,LpS 50 c50 0 n (f50.O n):=lpS f50.l0.P sg_lli f50.l0.A f50.l0.F
theorem f50.ok:FnS 50 f50.P sg_ll f50.A f50.F:=fnS c50 f50.O [loopAt c50 0] (fun n=>(.cons (f50.l0.ok n) .nil))
def f50.w:FnW E:=fnW 50 f50.P sg_ll f50.A f50.F f50.ok
def f151:Nat→Int→Int→Nat→List T→Int→Int→Nat→List T→Option (Bool)
 | 0,_,_,_,_,_,_,_,_=>none
 | n+1,i1,i2,n3,l4,i5,i6,n7,l8 =>
   br (i1 != i5) (
    some false) (
    br (i2 != i6) (
     some false) (
     bd (f17 n n3 l4 n7 l8) fun r9 =>
     let b10:=r9
     br (!b10) (
      some false) (
      some true)))
def f151.P:List Arg:=[qA23,qA23]
def f151.A:RAlt (Bool):=.one ⟨[qV15],[none,none]⟩ sg_b
def f151.F (n:Nat) (v:Int × Int × Nat × List T × Int × Int × Nat × List T):=f151 n v.1 v.2.1 v.2.2.1 v.2.2.2.1 v.2.2.2.2.1 v.2.2.2.2.2.1 v.2.2.2.2.2.2.1 v.2.2.2.2.2.2.2
def f151.O (n:Nat):Orc:=orcOf (E:=E) [f17.w] [] n
theorem f151.ok:FnS 151 f151.P sg_iiliil f151.A f151.F:=fnS c151 f151.O
def f151.w:FnW E:=fnW 151 f151.P sg_iiliil f151.A f151.F f151.ok
def f116.l0 (n:Nat):Nat→Nat→List T→Nat→List T→Int→Option ((Bool) ⊕ (Unit))
 | 0,_,_,_,_,_=>none
 | m+1,n1,l2,n3,l4,i5 =>
   br (decide (i5<(n1:Int))) (
    gd ((decide ((0≤i5)∧(i5<(n1:Int))))&&(okAt [(CK.int .i64),(CK.int .i64),CK.lst] l2 (((Int.toNat i5) * 3)+0))) (
    gd ((decide ((0≤i5)∧(i5<(n3:Int))))&&(okAt [(CK.int .i64),(CK.int .i64),CK.lst] l4 (((Int.toNat i5) * 3)+0))) (
    bd (f151 n (iAt l2 (((Int.toNat i5) * 3)+0)) (iAt l2 ((((Int.toNat i5) * 3)+0)+1)) (nAt l2 (((((Int.toNat i5) * 3)+0)+1)+1)) (lAt l2 (((((Int.toNat i5) * 3)+0)+1)+1)) (iAt l4 (((Int.toNat i5) * 3)+0)) (iAt l4 ((((Int.toNat i5) * 3)+0)+1)) (nAt l4 (((((Int.toNat i5) * 3)+0)+1)+1)) (lAt l4 (((((Int.toNat i5) * 3)+0)+1)+1))) fun r6 =>
    let b7:=r6
    br (!b7) (
     some (Sum.inl false)) (
     f116.l0 n m n1 l2 n3 l4 (IntKind.i64.wrap (i5+(1:Int))))))) (
    some (Sum.inr ()))
def f116:Nat→Nat→List T→Nat→List T→Option (Bool)
 | 0,_,_,_,_=>none
 | n+1,n1,l2,n3,l4 =>
   br ((n1:Int) != (n3:Int)) (
    some false) (
    bd (f116.l0 n n n1 l2 n3 l4 (0:Int)) fun r5 =>
    sm r5 (fun u6 =>
     let b7:=u6
     some b7) (fun u8 =>
     some true))
def f116.l0.P:AS:=⟨[(0,qS35),(1,qS35),(5,qS42)],0⟩
def f116.l0.A:Alt ((Bool) ⊕ (Unit)):=.or (.one .ret ⟨[(4,qS43)],0⟩ sg_b) (.one (.exit 0) ⟨[(4,.dead)],0⟩ sg)
def f116.l0.F (n m:Nat) (v:Nat × List T × Nat × List T × Int):=f116.l0 n m v.1 v.2.1 v.2.2.1 v.2.2.2.1 v.2.2.2.2
def f116.l0.W (n:Nat):LpW:=.of 64 f116.l0.P sg_lli f116.l0.A (f116.l0.F n n)
def f116.P:List Arg:=[qA24,qA24]
def f116.A:RAlt (Bool):=.one ⟨[qV15],[none,none]⟩ sg_b
def f116.F (n:Nat) (v:Nat × List T × Nat × List T):=f116 n v.1 v.2.1 v.2.2.1 v.2.2.2
def f116.O (n:Nat):Orc:=orcOf (E:=E) [f151.w] [f116.l0.W n] n
theorem f116.l0.ok:∀ n,LpS 116 c116 0 n (f116.O n):=lpS f116.l0.P sg_lli f116.l0.A f116.l0.F
theorem f116.ok:FnS 116 f116.P sg_ll f116.A f116.F:=fnS c116 f116.O [loopAt c116 0] (fun n=>(.cons (f116.l0.ok n) .nil))
def f116.w:FnW E:=fnW 116 f116.P sg_ll f116.A f116.F f116.ok
def f91:Nat→Nat→List T→Int→Nat→Bool→Bool→Nat→List T→Int→Nat→Bool→Bool→Option (Bool)
 | 0,_,_,_,_,_,_,_,_,_,_,_,_=>none
 | n+1,n1,l2,i3,x4,b5,b6,n7,l8,i9,x10,b11,b12 =>
   bd (f116 n n1 l2 n7 l8) fun r13 =>
   let b14:=r13
   br (!b14) (
    some false) (
    br (i3 != i9) (
     some false) (
     bd ((fltToFlt .f32 x4 .f64)) fun y15 =>
     bd ((fltToFlt .f32 x10 .f64)) fun y16 =>
     bd (f49 n y15 y16) fun r17 =>
     let b18:=r17
     br (!b18) (
      some false) (
      br (!(b5==b11)) (
       some false) (
       br (!(b6==b12)) (
        some false) (
        some true)))))
def sg_lifbblifbb:Sig (Nat × List T × Int × Nat × Bool × Bool × Nat × List T × Int × Nat × Bool × Bool) where
 pk:=fun v=>[.lst v.1 v.2.1,.int v.2.2.1,.flt v.2.2.2.1,.bool v.2.2.2.2.1,.bool v.2.2.2.2.2.1,.lst v.2.2.2.2.2.2.1 v.2.2.2.2.2.2.2.1,.int v.2.2.2.2.2.2.2.2.1,.flt v.2.2.2.2.2.2.2.2.2.1,.bool v.2.2.2.2.2.2.2.2.2.2.1,.bool v.2.2.2.2.2.2.2.2.2.2.2]
 up:=fun ls=>match ls with
  | [.lst a0 a1,.int a2,.flt a3,.bool a4,.bool a5,.lst a6 a7,.int a8,.flt a9,.bool a10,.bool a11]=>some (a0,a1,a2,a3,a4,a5,a6,a7,a8,a9,a10,a11)
  | _=>none
 ok:=by intro _ _ h;split at h <;>cases h;rfl
def f91.P:List Arg:=[qA25,qA25]
def f91.A:RAlt (Bool):=.one ⟨[qV15],[none,none]⟩ sg_b
def f91.F (n:Nat) (v:Nat × List T × Int × Nat × Bool × Bool × Nat × List T × Int × Nat × Bool × Bool):=f91 n v.1 v.2.1 v.2.2.1 v.2.2.2.1 v.2.2.2.2.1 v.2.2.2.2.2.1 v.2.2.2.2.2.2.1 v.2.2.2.2.2.2.2.1 v.2.2.2.2.2.2.2.2.1 v.2.2.2.2.2.2.2.2.2.1 v.2.2.2.2.2.2.2.2.2.2.1 v.2.2.2.2.2.2.2.2.2.2.2
def f91.O (n:Nat):Orc:=orcOf (E:=E) [f49.w,f116.w] [] n
theorem f91.ok:FnS 91 f91.P sg_lifbblifbb f91.A f91.F:=fnS c91 f91.O
def f91.w:FnW E:=fnW 91 f91.P sg_lifbblifbb f91.A f91.F f91.ok
def f51.l0 (n:Nat):Nat→Nat→List T→Nat→List T→Int→Option ((Bool) ⊕ (Unit))
 | 0,_,_,_,_,_=>none
 | m+1,n1,l2,n3,l4,i5 =>
   br (decide (i5<(n1:Int))) (
    gd ((decide ((0≤i5)∧(i5<(n1:Int))))&&(okAt [CK.lst,(CK.int .i64),(CK.flt .f32),CK.bool,CK.bool] l2 (((Int.toNat i5) * 5)+0))) (
    gd ((decide ((0≤i5)∧(i5<(n3:Int))))&&(okAt [CK.lst,(CK.int .i64),(CK.flt .f32),CK.bool,CK.bool] l4 (((Int.toNat i5) * 5)+0))) (
    bd (f91 n (nAt l2 (((Int.toNat i5) * 5)+0)) (lAt l2 (((Int.toNat i5) * 5)+0)) (iAt l2 ((((Int.toNat i5) * 5)+0)+1)) (fAt l2 (((((Int.toNat i5) * 5)+0)+1)+1)) (bAt l2 ((((((Int.toNat i5) * 5)+0)+1)+1)+1)) (bAt l2 (((((((Int.toNat i5) * 5)+0)+1)+1)+1)+1)) (nAt l4 (((Int.toNat i5) * 5)+0)) (lAt l4 (((Int.toNat i5) * 5)+0)) (iAt l4 ((((Int.toNat i5) * 5)+0)+1)) (fAt l4 (((((Int.toNat i5) * 5)+0)+1)+1)) (bAt l4 ((((((Int.toNat i5) * 5)+0)+1)+1)+1)) (bAt l4 (((((((Int.toNat i5) * 5)+0)+1)+1)+1)+1))) fun r6 =>
    let b7:=r6
    br (!b7) (
     some (Sum.inl false)) (
     f51.l0 n m n1 l2 n3 l4 (IntKind.i64.wrap (i5+(1:Int))))))) (
    some (Sum.inr ()))
def f51:Nat→Nat→List T→Nat→List T→Option (Bool)
 | 0,_,_,_,_=>none
 | n+1,n1,l2,n3,l4 =>
   br ((n1:Int) != (n3:Int)) (
    some false) (
    bd (f51.l0 n n n1 l2 n3 l4 (0:Int)) fun r5 =>
    sm r5 (fun u6 =>
     let b7:=u6
     some b7) (fun u8 =>
     some true))
def f51.l0.P:AS:=⟨[(0,qS32),(1,qS32),(5,qS42)],0⟩
def f51.l0.A:Alt ((Bool) ⊕ (Unit)):=.or (.one .ret ⟨[(4,qS43)],0⟩ sg_b) (.one (.exit 0) ⟨[(4,.dead)],0⟩ sg)
def f51.l0.F (n m:Nat) (v:Nat × List T × Nat × List T × Int):=f51.l0 n m v.1 v.2.1 v.2.2.1 v.2.2.2.1 v.2.2.2.2
def f51.l0.W (n:Nat):LpW:=.of 64 f51.l0.P sg_lli f51.l0.A (f51.l0.F n n)
def f51.P:List Arg:=[qA26,qA26]
def f51.A:RAlt (Bool):=.one ⟨[qV15],[none,none]⟩ sg_b
def f51.F (n:Nat) (v:Nat × List T × Nat × List T):=f51 n v.1 v.2.1 v.2.2.1 v.2.2.2
def f51.O (n:Nat):Orc:=orcOf (E:=E) [f91.w] [f51.l0.W n] n
theorem f51.l0.ok:∀ n,LpS 51 c51 0 n (f51.O n):=lpS f51.l0.P sg_lli f51.l0.A f51.l0.F
theorem f51.ok:FnS 51 f51.P sg_ll f51.A f51.F:=fnS c51 f51.O [loopAt c51 0] (fun n=>(.cons (f51.l0.ok n) .nil))
def f51.w:FnW E:=fnW 51 f51.P sg_ll f51.A f51.F f51.ok
def f18:Nat→Nat→List T→Nat→List T→Nat→List T→Nat→List T→Option (Bool)
 | 0,_,_,_,_,_,_,_,_=>none
 | n+1,n1,l2,n3,l4,n5,l6,n7,l8 =>
   bd (f50 n n1 l2 n5 l6) fun r9 =>
   let b10:=r9
   br (!b10) (
    some false) (
    bd (f51 n n3 l4 n7 l8) fun r11 =>
    let b12:=r11
    br (!b12) (
     some false) (
     some true))
def sg_llll:Sig (Nat × List T × Nat × List T × Nat × List T × Nat × List T) where
 pk:=fun v=>[.lst v.1 v.2.1,.lst v.2.2.1 v.2.2.2.1,.lst v.2.2.2.2.1 v.2.2.2.2.2.1,.lst v.2.2.2.2.2.2.1 v.2.2.2.2.2.2.2]
 up:=fun ls=>match ls with
  | [.lst a0 a1,.lst a2 a3,.lst a4 a5,.lst a6 a7]=>some (a0,a1,a2,a3,a4,a5,a6,a7)
  | _=>none
 ok:=by intro _ _ h;split at h <;>cases h;rfl
def f18.P:List Arg:=[qA27,qA27]
def f18.A:RAlt (Bool):=.one ⟨[qV15],[none,none]⟩ sg_b
def f18.F (n:Nat) (v:Nat × List T × Nat × List T × Nat × List T × Nat × List T):=f18 n v.1 v.2.1 v.2.2.1 v.2.2.2.1 v.2.2.2.2.1 v.2.2.2.2.2.1 v.2.2.2.2.2.2.1 v.2.2.2.2.2.2.2
def f18.O (n:Nat):Orc:=orcOf (E:=E) [f50.w,f51.w] [] n
theorem f18.ok:FnS 18 f18.P sg_llll f18.A f18.F:=fnS c18 f18.O
def f18.w:FnW E:=fnW 18 f18.P sg_llll f18.A f18.F f18.ok
def f20.l0 (n:Nat):Nat→Nat→List T→Int→Int→Option (Nat × List T × Int)
 | 0,_,_,_,_=>none
 | m+1,n1,l2,i3,i4 =>
   br (decide (i4<(n1:Int))) (
    gd (decide ((0≤i4)∧(i4<(n1:Int)))) (
    gd (Nat.ble ((Int.toNat i4)+1) (List.length l2)) (
    let l5:=(setN l2 (Int.toNat i4) [(T.flt .f32 (FloatKind.nearest .f32 i3))])
    let i6:=(IntKind.i64.wrap (i3+(1:Int)))
    f20.l0 n m n1 l5 i6 (IntKind.i64.wrap (i4+(1:Int)))))) (
    some (n1,l2,i3))
def f20:Nat→Nat→List T→Int→Option (Int × Nat × List T)
 | 0,_,_,_=>none
 | n+1,n1,l2,i3 =>
   bd (f20.l0 n n n1 l2 i3 (0:Int)) fun r4 =>
   let n5:=r4.1
   let l6:=r4.2.1
   let i7:=r4.2.2
   some (i7,n5,l6)
def f20.l0.P:AS:=⟨[(0,.val false [.sl .own [.leaf]] [.lst 0 []] [] 1),(1,qS42),(5,qS42)],0⟩
def f20.l0.A:Alt (Nat × List T × Int):=.one (.exit 0) ⟨[(0,.val false [.sl .own [.leaf]] [.lst 0 []] [] 1),(1,qS42)],0⟩ sg_li
def f20.l0.F (n m:Nat) (v:Nat × List T × Int × Int):=f20.l0 n m v.1 v.2.1 v.2.2.1 v.2.2.2
def f20.l0.W (n:Nat):LpW:=.of 32 f20.l0.P sg_lii f20.l0.A (f20.l0.F n n)
def f20.P:List Arg:=[⟨.io,qV13⟩,qA19]
def f20.A:RAlt (Int × Nat × List T):=.one ⟨[qV14],[some qV13,none]⟩ sg_il
def f20.F (n:Nat) (v:Nat × List T × Int):=f20 n v.1 v.2.1 v.2.2
def f20.O (n:Nat):Orc:=orcOf (E:=E) [] [f20.l0.W n] n
theorem f20.l0.ok:∀ n,LpS 20 c20 0 n (f20.O n):=lpS f20.l0.P sg_lii f20.l0.A f20.l0.F
theorem f20.ok:FnS 20 f20.P sg_li f20.A f20.F:=fnS c20 f20.O [loopAt c20 0] (fun n=>(.cons (f20.l0.ok n) .nil))
def f20.w:FnW E:=fnW 20 f20.P sg_li f20.A f20.F f20.ok
def f52.l0 (n:Nat):Nat→Nat→List T→Int→Int→Option (Nat × List T × Int)
 | 0,_,_,_,_=>none
 | m+1,n1,l2,i3,i4 =>
   br (decide (i4<(n1:Int))) (
    gd (decide ((0≤i4)∧(i4<(n1:Int)))) (
    gd (Nat.ble ((((Int.toNat i4) * 3)+0)+1) (List.length l2)) (
    let l5:=(setN l2 (((Int.toNat i4) * 3)+0) [(T.int .i64 i3)])
    let i6:=(IntKind.i64.wrap (i3+(1:Int)))
    gd (decide ((0≤i4)∧(i4<(n1:Int)))) (
    gd (Nat.ble ((((Int.toNat i4) * 3)+1)+1) (List.length l5)) (
    let l7:=(setN l5 (((Int.toNat i4) * 3)+1) [(T.int .i64 i6)])
    let i8:=(IntKind.i64.wrap (i6+(1:Int)))
    gd (decide ((0≤i4)∧(i4<(n1:Int)))) (
    gd (okAt [CK.lst] l7 (((Int.toNat i4) * 3)+2)) (
    gd ((okAt [CK.lst] l7 (((Int.toNat i4) * 3)+2))&&true) (
    gd ((okAt [CK.lst] l7 (((Int.toNat i4) * 3)+2))&&true) (
    bd (f20 n (nAt l7 (((Int.toNat i4) * 3)+2)) (lAt l7 (((Int.toNat i4) * 3)+2)) i8) fun r9 =>
    let i10:=r9.1
    let n11:=r9.2.1
    let l12:=r9.2.2
    let l13:=(setN l7 (((Int.toNat i4) * 3)+2) [(T.lst n11 l12)])
    f52.l0 n m n1 l13 i10 (IntKind.i64.wrap (i4+(1:Int)))))))))))) (
    some (n1,l2,i3))
def f52:Nat→Nat→List T→Int→Option (Int × Nat × List T)
 | 0,_,_,_=>none
 | n+1,n1,l2,i3 =>
   bd (f52.l0 n n n1 l2 i3 (0:Int)) fun r4 =>
   let n5:=r4.1
   let l6:=r4.2.1
   let i7:=r4.2.2
   some (i7,n5,l6)
def f52.l0.P:AS:=⟨[(0,qS37),(1,qS42),(5,qS42)],0⟩
def f52.l0.A:Alt (Nat × List T × Int):=.one (.exit 0) ⟨[(0,qS37),(1,qS42)],0⟩ sg_li
def f52.l0.F (n m:Nat) (v:Nat × List T × Int × Int):=f52.l0 n m v.1 v.2.1 v.2.2.1 v.2.2.2
def f52.l0.W (n:Nat):LpW:=.of 32 f52.l0.P sg_lii f52.l0.A (f52.l0.F n n)
def f52.P:List Arg:=[⟨.io,qV10⟩,qA19]
def f52.A:RAlt (Int × Nat × List T):=.one ⟨[qV14],[some qV10,none]⟩ sg_il
def f52.F (n:Nat) (v:Nat × List T × Int):=f52 n v.1 v.2.1 v.2.2
def f52.O (n:Nat):Orc:=orcOf (E:=E) [f20.w] [f52.l0.W n] n
theorem f52.l0.ok:∀ n,LpS 52 c52 0 n (f52.O n):=lpS f52.l0.P sg_lii f52.l0.A f52.l0.F
theorem f52.ok:FnS 52 f52.P sg_li f52.A f52.F:=fnS c52 f52.O [loopAt c52 0] (fun n=>(.cons (f52.l0.ok n) .nil))
def f52.w:FnW E:=fnW 52 f52.P sg_li f52.A f52.F f52.ok
def f92.l0 (n:Nat):Nat→Nat→List T→Int→Int→Option (Nat × List T × Int)
 | 0,_,_,_,_=>none
 | m+1,n1,l2,i3,i4 =>
   br (decide (i4<(n1:Int))) (
    gd (decide ((0≤i4)∧(i4<(n1:Int)))) (
    gd (Nat.ble ((((Int.toNat i4) * 3)+0)+1) (List.length l2)) (
    let l5:=(setN l2 (((Int.toNat i4) * 3)+0) [(T.int .i64 i3)])
    let i6:=(IntKind.i64.wrap (i3+(1:Int)))
    gd (decide ((0≤i4)∧(i4<(n1:Int)))) (
    gd (Nat.ble ((((Int.toNat i4) * 3)+1)+1) (List.length l5)) (
    let l7:=(setN l5 (((Int.toNat i4) * 3)+1) [(T.int .i64 i6)])
    let i8:=(IntKind.i64.wrap (i6+(1:Int)))
    gd (decide ((0≤i4)∧(i4<(n1:Int)))) (
    gd (okAt [CK.lst] l7 (((Int.toNat i4) * 3)+2)) (
    gd ((okAt [CK.lst] l7 (((Int.toNat i4) * 3)+2))&&true) (
    gd ((okAt [CK.lst] l7 (((Int.toNat i4) * 3)+2))&&true) (
    bd (f20 n (nAt l7 (((Int.toNat i4) * 3)+2)) (lAt l7 (((Int.toNat i4) * 3)+2)) i8) fun r9 =>
    let i10:=r9.1
    let n11:=r9.2.1
    let l12:=r9.2.2
    let l13:=(setN l7 (((Int.toNat i4) * 3)+2) [(T.lst n11 l12)])
    f92.l0 n m n1 l13 i10 (IntKind.i64.wrap (i4+(1:Int)))))))))))) (
    some (n1,l2,i3))
def f92:Nat→Nat→List T→Int→Option (Int × Nat × List T)
 | 0,_,_,_=>none
 | n+1,n1,l2,i3 =>
   bd (f92.l0 n n n1 l2 i3 (0:Int)) fun r4 =>
   let n5:=r4.1
   let l6:=r4.2.1
   let i7:=r4.2.2
   some (i7,n5,l6)
def f92.l0.P:AS:=⟨[(0,qS37),(1,qS42),(5,qS42)],0⟩
def f92.l0.A:Alt (Nat × List T × Int):=.one (.exit 0) ⟨[(0,qS37),(1,qS42)],0⟩ sg_li
def f92.l0.F (n m:Nat) (v:Nat × List T × Int × Int):=f92.l0 n m v.1 v.2.1 v.2.2.1 v.2.2.2
def f92.l0.W (n:Nat):LpW:=.of 32 f92.l0.P sg_lii f92.l0.A (f92.l0.F n n)
def f92.P:List Arg:=[⟨.io,qV10⟩,qA19]
def f92.A:RAlt (Int × Nat × List T):=.one ⟨[qV14],[some qV10,none]⟩ sg_il
def f92.F (n:Nat) (v:Nat × List T × Int):=f92 n v.1 v.2.1 v.2.2
def f92.O (n:Nat):Orc:=orcOf (E:=E) [f20.w] [f92.l0.W n] n
theorem f92.l0.ok:∀ n,LpS 92 c92 0 n (f92.O n):=lpS f92.l0.P sg_lii f92.l0.A f92.l0.F
theorem f92.ok:FnS 92 f92.P sg_li f92.A f92.F:=fnS c92 f92.O [loopAt c92 0] (fun n=>(.cons (f92.l0.ok n) .nil))
def f92.w:FnW E:=fnW 92 f92.P sg_li f92.A f92.F f92.ok
def f53.l0 (n:Nat):Nat→Nat→List T→Int→Int→Option (Nat × List T × Int)
 | 0,_,_,_,_=>none
 | m+1,n1,l2,i3,i4 =>
   br (decide (i4<(n1:Int))) (
    gd (decide ((0≤i4)∧(i4<(n1:Int)))) (
    gd (okAt [CK.lst] l2 (((Int.toNat i4) * 5)+0)) (
    gd ((okAt [CK.lst] l2 (((Int.toNat i4) * 5)+0))&&true) (
    gd ((okAt [CK.lst] l2 (((Int.toNat i4) * 5)+0))&&true) (
    bd (f92 n (nAt l2 (((Int.toNat i4) * 5)+0)) (lAt l2 (((Int.toNat i4) * 5)+0)) i3) fun r5 =>
    let i6:=r5.1
    let n7:=r5.2.1
    let l8:=r5.2.2
    let l9:=(setN l2 (((Int.toNat i4) * 5)+0) [(T.lst n7 l8)])
    gd (decide ((0≤i4)∧(i4<(n1:Int)))) (
    gd (Nat.ble ((((Int.toNat i4) * 5)+1)+1) (List.length l9)) (
    let l10:=(setN l9 (((Int.toNat i4) * 5)+1) [(T.int .i64 i6)])
    let i11:=(IntKind.i64.wrap (i6+(1:Int)))
    gd (decide ((0≤i4)∧(i4<(n1:Int)))) (
    gd (Nat.ble ((((Int.toNat i4) * 5)+2)+1) (List.length l10)) (
    let l12:=(setN l10 (((Int.toNat i4) * 5)+2) [(T.flt .f32 (FloatKind.nearest .f32 i11))])
    let i13:=(IntKind.i64.wrap (i11+(1:Int)))
    gd (decide ((0≤i4)∧(i4<(n1:Int)))) (
    gd (Nat.ble ((((Int.toNat i4) * 5)+3)+1) (List.length l12)) (
    let l14:=(setN l12 (((Int.toNat i4) * 5)+3) [(T.bool ((Int.tmod i13 (3:Int))==(0:Int)))])
    let i15:=(IntKind.i64.wrap (i13+(1:Int)))
    gd (decide ((0≤i4)∧(i4<(n1:Int)))) (
    gd (Nat.ble ((((Int.toNat i4) * 5)+4)+1) (List.length l14)) (
    let l16:=(setN l14 (((Int.toNat i4) * 5)+4) [(T.bool ((Int.tmod i15 (3:Int))==(0:Int)))])
    let i17:=(IntKind.i64.wrap (i15+(1:Int)))
    f53.l0 n m n1 l16 i17 (IntKind.i64.wrap (i4+(1:Int)))))))))))))))) (
    some (n1,l2,i3))
def f53:Nat→Nat→List T→Int→Option (Int × Nat × List T)
 | 0,_,_,_=>none
 | n+1,n1,l2,i3 =>
   bd (f53.l0 n n n1 l2 i3 (0:Int)) fun r4 =>
   let n5:=r4.1
   let l6:=r4.2.1
   let i7:=r4.2.2
   some (i7,n5,l6)
def f53.l0.P:AS:=⟨[(0,.val false [.sl .own [.sl .own [.leaf,.leaf,.sl .own [.leaf]],.leaf,.leaf,.leaf,.leaf]] [.lst 0 []] [] 1),(1,qS42),(5,qS42)],0⟩
def f53.l0.A:Alt (Nat × List T × Int):=.one (.exit 0) ⟨[(0,.val false [.sl .own [.sl .own [.leaf,.leaf,.sl .own [.leaf]],.leaf,.leaf,.leaf,.leaf]] [.lst 0 []] [] 1),(1,qS42)],0⟩ sg_li
def f53.l0.F (n m:Nat) (v:Nat × List T × Int × Int):=f53.l0 n m v.1 v.2.1 v.2.2.1 v.2.2.2
def f53.l0.W (n:Nat):LpW:=.of 32 f53.l0.P sg_lii f53.l0.A (f53.l0.F n n)
def f53.P:List Arg:=[⟨.io,qV5⟩,qA19]
def f53.A:RAlt (Int × Nat × List T):=.one ⟨[qV14],[some qV5,none]⟩ sg_il
def f53.F (n:Nat) (v:Nat × List T × Int):=f53 n v.1 v.2.1 v.2.2
def f53.O (n:Nat):Orc:=orcOf (E:=E) [f92.w] [f53.l0.W n] n
theorem f53.l0.ok:∀ n,LpS 53 c53 0 n (f53.O n):=lpS f53.l0.P sg_lii f53.l0.A f53.l0.F
theorem f53.ok:FnS 53 f53.P sg_li f53.A f53.F:=fnS c53 f53.O [loopAt c53 0] (fun n=>(.cons (f53.l0.ok n) .nil))
def f53.w:FnW E:=fnW 53 f53.P sg_li f53.A f53.F f53.ok
def f19:Nat→Nat→List T→Nat→List T→Int→Option (Int × Nat × List T × Nat × List T)
 | 0,_,_,_,_,_=>none
 | n+1,n1,l2,n3,l4,i5 =>
   bd (f52 n n1 l2 i5) fun r6 =>
   let i7:=r6.1
   let n8:=r6.2.1
   let l9:=r6.2.2
   bd (f53 n n3 l4 i7) fun r10 =>
   let i11:=r10.1
   let n12:=r10.2.1
   let l13:=r10.2.2
   some (i11,n8,l9,n12,l13)
def sg_ill:Sig (Int × Nat × List T × Nat × List T) where
 pk:=fun v=>[.int v.1,.lst v.2.1 v.2.2.1,.lst v.2.2.2.1 v.2.2.2.2]
 up:=fun ls=>match ls with
  | [.int a0,.lst a1 a2,.lst a3 a4]=>some (a0,a1,a2,a3,a4)
  | _=>none
 ok:=by intro _ _ h;split at h <;>cases h;rfl
def f19.P:List Arg:=[⟨.io,qV1⟩,qA19]
def f19.A:RAlt (Int × Nat × List T × Nat × List T):=.one ⟨[qV14],[some qV1,none]⟩ sg_ill
def f19.F (n:Nat) (v:Nat × List T × Nat × List T × Int):=f19 n v.1 v.2.1 v.2.2.1 v.2.2.2.1 v.2.2.2.2
def f19.O (n:Nat):Orc:=orcOf (E:=E) [f52.w,f53.w] [] n
theorem f19.ok:FnS 19 f19.P sg_lli f19.A f19.F:=fnS c19 f19.O
def f19.w:FnW E:=fnW 19 f19.P sg_lli f19.A f19.F f19.ok
def f21.l0 (n:Nat):Nat→Nat→List T→Int→Int→Option ((Int) ⊕ (Int))
 | 0,_,_,_,_=>none
 | m+1,n1,l2,i3,i4 =>
   br (decide (i4<(n1:Int))) (
    gd ((decide ((0≤i4)∧(i4<(n1:Int))))&&(okAt [(CK.flt .f32)] l2 (Int.toNat i4))) (
    br (fne .f32 (fAt l2 (Int.toNat i4)) (FloatKind.nearest .f32 i3)) (
     some (Sum.inl (-1:Int))) (
     let i5:=(IntKind.i64.wrap (i3+(1:Int)))
     f21.l0 n m n1 l2 i5 (IntKind.i64.wrap (i4+(1:Int)))))) (
    some (Sum.inr i3))
def f21:Nat→Nat→List T→Int→Option (Int)
 | 0,_,_,_=>none
 | n+1,n1,l2,i3 =>
   bd (f21.l0 n n n1 l2 i3 (0:Int)) fun r4 =>
   sm r4 (fun u5 =>
    let i6:=u5
    some i6) (fun u7 =>
    let i8:=u7
    some i8)
def f21.l0.P:AS:=⟨[(0,qS40),(1,qS42),(5,qS42)],0⟩
def f21.l0.A:Alt ((Int) ⊕ (Int)):=.or (.one .ret ⟨[(1,.dead),(4,qS42)],0⟩ sg_i) (.one (.exit 0) ⟨[(1,qS42),(4,.dead)],0⟩ sg_i)
def f21.l0.F (n m:Nat) (v:Nat × List T × Int × Int):=f21.l0 n m v.1 v.2.1 v.2.2.1 v.2.2.2
def f21.l0.W (n:Nat):LpW:=.of 32 f21.l0.P sg_lii f21.l0.A (f21.l0.F n n)
def f21.P:List Arg:=[qA18,qA19]
def f21.A:RAlt (Int):=.one ⟨[qV14],[none,none]⟩ sg_i
def f21.F (n:Nat) (v:Nat × List T × Int):=f21 n v.1 v.2.1 v.2.2
def f21.O (n:Nat):Orc:=orcOf (E:=E) [] [f21.l0.W n] n
theorem f21.l0.ok:∀ n,LpS 21 c21 0 n (f21.O n):=lpS f21.l0.P sg_lii f21.l0.A f21.l0.F
theorem f21.ok:FnS 21 f21.P sg_li f21.A f21.F:=fnS c21 f21.O [loopAt c21 0] (fun n=>(.cons (f21.l0.ok n) .nil))
def f21.w:FnW E:=fnW 21 f21.P sg_li f21.A f21.F f21.ok
def f5:Nat→Nat→List T→Nat→List T→Int→Int→Option (Bool)
 | 0,_,_,_,_,_,_=>none
 | n+1,n1,l2,n3,l4,i5,i6 =>
   bd (f14 n n1 l2 n3 l4 (1048576:Int)) fun r7 =>
   let i8:=r7
   br (decide (i8<(0:Int))) (
    some true) (
    bd (f16 n n1 l2 n3 l4) fun r9 =>
    let n10:=r9.1
    let l11:=r9.2.1
    let n12:=r9.2.2.1
    let l13:=r9.2.2.2
    bd (f22 n n10 l11 n12 l13 i5 i6) fun r14 =>
    let n15:=r14.1
    let l16:=r14.2.1
    let n17:=r14.2.2.1
    let l18:=r14.2.2.2.1
    let b19:=r14.2.2.2.2
    bd (f16 n n1 l2 n3 l4) fun r20 =>
    let n21:=r20.1
    let l22:=r20.2.1
    let n23:=r20.2.2.1
    let l24:=r20.2.2.2
    bd (f10 n n21 l22 n23 l24 i5 i6) fun r25 =>
    let n26:=r25.1
    let l27:=r25.2.1
    let n28:=r25.2.2.1
    let l29:=r25.2.2.2.1
    let b30:=r25.2.2.2.2
    bd (f17 n n26 l27 n15 l16) fun r31 =>
    let b32:=r31
    br (!b32) (
     some false) (
     bd (f17 n n28 l29 n17 l18) fun r33 =>
     let b34:=r33
     br (!b34) (
      some false) (
      br (!(b30==b19)) (
       some false) (
       bd (f16 n n1 l2 n3 l4) fun r35 =>
       let n36:=r35.1
       let l37:=r35.2.1
       let n38:=r35.2.2.1
       let l39:=r35.2.2.2
       bd (f18 n n21 l22 n23 l24 n36 l37 n38 l39) fun r40 =>
       let b41:=r40
       br (!b41) (
        some false) (
        bd (f19 n n21 l22 n23 l24 (1:Int)) fun r42 =>
        let i43:=r42.1
        br (decide (i43<(0:Int))) (
         some false) (
         bd (f17 n n26 l27 n15 l16) fun r48 =>
         let b49:=r48
         br (!b49) (
          some false) (
          bd (f17 n n28 l29 n17 l18) fun r50 =>
          let b51:=r50
          br (!b51) (
           some false) (
           br (!(b30==b19)) (
            some false) (
            bd (f20 n n26 l27 (1:Int)) fun r52 =>
            let i53:=r52.1
            let n54:=r52.2.1
            let l55:=r52.2.2
            bd (f20 n n28 l29 i53) fun r56 =>
            let i57:=r56.1
            let n58:=r56.2.1
            let l59:=r56.2.2
            bd (f21 n n54 l55 (1:Int)) fun r60 =>
            let i61:=r60
            br (decide (i61<(0:Int))) (
             some false) (
             bd (f21 n n58 l59 i61) fun r62 =>
             let i63:=r62
             br (decide (i63<(0:Int))) (
              some false) (
              br (i63 != i57) (
               some false) (
               bd (f16 n n1 l2 n3 l4) fun r64 =>
               let n65:=r64.1
               let l66:=r64.2.1
               let n67:=r64.2.2.1
               let l68:=r64.2.2.2
               bd (f10 n n65 l66 n67 l68 i5 i6) fun r69 =>
               let n70:=r69.1
               let l71:=r69.2.1
               let n72:=r69.2.2.1
               let l73:=r69.2.2.2.1
               let b74:=r69.2.2.2.2
               bd (f17 n n70 l71 n15 l16) fun r75 =>
               let b76:=r75
               br (!b76) (
                some false) (
                bd (f17 n n72 l73 n17 l18) fun r77 =>
                let b78:=r77
                br (!b78) (
                 some false) (
                 br (!(b74==b19)) (
                  some false) (
                  bd (f21 n n54 l55 (1:Int)) fun r79 =>
                  let i80:=r79
                  br (decide (i80<(0:Int))) (
                   some false) (
                   bd (f21 n n58 l59 i80) fun r81 =>
                   let i82:=r81
                   br (decide (i82<(0:Int))) (
                    some false) (
                    br (i82 != i57) (
                     some false) (
                     some true))))))))))))))))))
def f5.P:List Arg:=[qA27,qA19,qA19]
def f5.A:RAlt (Bool):=.one ⟨[qV15],[none,none,none]⟩ sg_b
def f5.F (n:Nat) (v:Nat × List T × Nat × List T × Int × Int):=f5 n v.1 v.2.1 v.2.2.1 v.2.2.2.1 v.2.2.2.2.1 v.2.2.2.2.2
def f5.O (n:Nat):Orc:=orcOf (E:=E) [f14.w,f16.w,f22.w,f10.w,f17.w,f18.w,f20.w,f19.w,f21.w] [] n
theorem f5.ok:FnS 5 f5.P sg_llii f5.A f5.F:=fnS c5 f5.O
def f5.w:FnW E:=fnW 5 f5.P sg_llii f5.A f5.F f5.ok
end Go.Proofs.YtokonabdnlckdaaGreat.D
end
section
namespace Go.Proofs.YtokonabdnlckdaaGreat.D
open Go Go.Desk
set_option linter.unusedVariables false
theorem s_few (n k:Nat) (l:List T):f80 (n+1) k l=some (decide ((k:Int)≤256)):=by rw[f80]
theorem i_few (n k:Nat) (l:List T):f66 (n+1) k l=some (decide ((k:Int)≤256)):=by rw[f66]
theorem s_in (n:Nat) (a b c:Int):f38 (n+1) a b c=some (decide (b≤a∧a≤c)):=by
 rw[f38]
 by_cases h:b≤a <;>simp[br,h]
theorem i_in (n:Nat) (a b c:Int):f29 (n+1) a b c=some (decide (b≤a∧a≤c)):=by
 rw[f29]
 by_cases h:b≤a <;>simp[br,h]
theorem i_sub (n:Nat) {x:Nat} (h:x<4294967296):f162 (n+1) x=some (sub32 x):=by
 rw[f162,← sub_key h]
 cases fne .f32 x 0 <;>cases flt .f32 x 8388608 <;>rfl
theorem i_flush (n:Nat) {x:Nat} (h:W32 x):f134 (n+2) x=some (flushM x):=by
 rw[f134,i_sub n h.1,bd_s,br_not]
 have hx:=h.1
 cases hs:sub32 x
 ·rw[br_f]
  unfold sub32 at hs
  unfold flushM
  simp at hs
  split
  ·congr 1;omega
  ·rfl
 ·have hs' :=hs
  unfold sub32 at hs
  simp at hs
  have hn:isNaN .f32 x=false:=by rw[nan32];simp;omega
  obtain ⟨y,e1,e2⟩:=copy_zero n hx hn
  rw[br_t,fltToFlt_wide]
  simp only[bd_s,e1,e2]
  unfold flushM
  rw[if_pos hs.2]
theorem i_flushedq (n:Nat) {x:Nat} (b:Bool) (h:W32 x):f173 (n+3) x b=some (fl? b x):=by
 rw[f173]
 cases b
 ·rfl
 ·simp only[br_t,i_flush n h,bd_s];rfl
theorem i_fstep (n:Nat) (f:Filt) (form:Int) (b:Bool) (m:Mem) (x:Nat) (hm:WMem m) (hx:W32 x) :
  f161 (n+4) f.1 f.2.1 f.2.2.1 f.2.2.2.1 f.2.2.2.2 form b m.1 m.2.1 m.2.2.1 m.2.2.2 x =
   some ((fstep f form b m x).1,(fstep f form b m x).2.1,(fstep f form b m x).2.2.1,(fstep f form b m x).2.2.2.1,(fstep f form b m x).2.2.2.2):=by
 obtain ⟨m1,m2,m3,m4⟩:=hm
 rw[f161]
 unfold fstep
 by_cases h0:form=0
 ·simp only[h0,beq_self_eq_true,br_t,if_true,i_flushedq n b (w32_fsub _ _),bd_s,i_flushedq n b hx,i_flushedq n b m1,i_flushedq n b m3,i_flushedq n b (w32_fl? (b:=b) (w32_fsub _ _))]
 ·have h0':(form==0)=false:=by simp[h0]
  simp only[h0',br_f,if_neg h0]
  by_cases h1:form=1
  ·simp only[h1,beq_self_eq_true,br_t,if_true,i_flushedq n b (w32_fsub _ _),i_flushedq n b (w32_fadd _ _),i_flushedq n b w32_zero,bd_s]
  ·have h1':(form==1)=false:=by simp[h1]
   simp only[h1',br_f,if_neg h1,i_flushedq n b (w32_fsub _ _),bd_s,i_flushedq n b (w32_fadd _ _),i_flushedq n b (w32_fl? (b:=b) (w32_fsub _ _)),i_flushedq n b m1,i_flushedq n b w32_zero]
theorem i_frun_loop (n:Nat) (f:Filt) (form:Int) (b:Bool) (N:Nat) (cs:List T) (u:Mem):∀ (zs p acc:List Nat) (mm:Mem) (m:Nat),(∀ x∈zs,W32 x)→WMem mm→acc.length+zs.length<1048576→p.length+zs.length<1048576→zs.length<m →
  f132.l0 (n+4) m form b N cs f.1 f.2.1 f.2.2.1 f.2.2.2.1 f.2.2.2.2 mm.1 mm.2.1 mm.2.2.1 mm.2.2.2 u.1 u.2.1 u.2.2.1 u.2.2.2 acc.length (fls .f32 acc) (p++zs).length (fls .f32 (p++zs)) ((p++zs).length:Int) (p.length:Int) =
   some ((scan (fstep f form b) mm zs).2.1,(scan (fstep f form b) mm zs).2.2.1,(scan (fstep f form b) mm zs).2.2.2.1,(scan (fstep f form b) mm zs).2.2.2.2,u.1,u.2.1,u.2.2.1,u.2.2.2,(acc++(scan (fstep f form b) mm zs).1).length,fls .f32 (acc++(scan (fstep f form b) mm zs).1)):=by
 intro zs
 induction zs with
 | nil =>
   intro p acc mm m _ _ _ _ hm
   obtain ⟨m,rfl⟩:∃ k,m=k+1:=⟨m - 1,by omega⟩
   rw[f132.l0,lt_end]
   simp[br_f,scan]
 | cons z zs ih =>
   intro p acc mm m hz hmm ha hp hm
   obtain ⟨m,rfl⟩:∃ k,m=k+1:=⟨m - 1,by omega⟩
   have hp':p.length<1048576:=by simp at hp;omega
   have ha':acc.length<1048576:=by simp at ha;omega
   have hw:=hz z (by simp)
   rw[f132.l0,lt_mid,in_mid,toNat_len,okAt_mid,fAt_mid]
   simp only[br_t,gd_t,Bool.and_self,i_fstep n f form b mm z hmm hw,bd_s,push_ok (show acc.length<2147483648 by omega),push_fls,wrap_len (z:=z) (show p.length<4611686018427387904 by omega)]
   have:=ih (p++[z]) (acc++[(fstep f form b mm z).1]) (fstep f form b mm z).2 m (fun x hx=>hz x (by simp[hx])) (fstep_w32 hmm hw).2 (by simp at ha ⊢;omega) (by simp at hp ⊢;omega) (by simp at hm;omega)
   simpa [scan] using this
theorem i_frun (n:Nat) (f:Filt) (form:Int) (b:Bool) (mm:Mem) (xs:List Nat) (hx:∀ x∈xs,W32 x) (hm:WMem mm) (hl:xs.length<1048576) (hn:xs.length<n) :
  f132 (n+5) f.1 f.2.1 f.2.2.1 f.2.2.2.1 f.2.2.2.2 form b mm.1 mm.2.1 mm.2.2.1 mm.2.2.2 xs.length (fls .f32 xs) =
   some ((scan (fstep f form b) mm xs).1.length,fls .f32 (scan (fstep f form b) mm xs).1,(scan (fstep f form b) mm xs).2.1,(scan (fstep f form b) mm xs).2.2.1,(scan (fstep f form b) mm xs).2.2.2.1,(scan (fstep f form b) mm xs).2.2.2.2):=by
 rw[f132]
 have e:=i_frun_loop n f form b xs.length (fls .f32 xs) (0,0,0,0) xs [] [] mm (n+4) hx hm (by simpa using hl) (by simpa using hl) (by omega)
 have e:f132.l0 (n+4) (n+4) form b xs.length (fls .f32 xs) f.1 f.2.1 f.2.2.1 f.2.2.2.1 f.2.2.2.2 mm.1 mm.2.1 mm.2.2.1 mm.2.2.2 0 0 0 0 0 [] xs.length (fls .f32 xs) (xs.length:Int) 0=_:=e
 rw[e];rfl
theorem i_zeroed (n k:Nat) (h:k≤2147483648):f70 (n+1) (k:Int)=some (k,fls .f32 (List.replicate k 0)):=by
 rw[f70,decide_eq_true (show (0:Int)≤(k:Int)∧(k:Int)≤2147483648 by omega),gd_t,Int.toNat_natCast,reps_fls]
theorem i_copy (n:Nat) (xs:List Nat) (h:xs.length≤2147483648):f34 (n+1) xs.length (fls .f32 xs)=some (xs.length,fls .f32 xs):=by
 rw[f34,Nat.zero_add,le_ble h];rfl
theorem i_taken (n:Nat) (w:Nat) (ws:List Nat) (x:Nat) (h:ws.length<2147483648):f133 (n+2) (w::ws).length (fls .f32 (w::ws)) x=some ((ws++[x]).length,fls .f32 (ws++[x])):=by
 rw[f133,decide_eq_true (by simp;omega:(0:Int)≤1∧(1:Int)≤((w::ws).length:Int)∧((w::ws).length:Int)≤((w::ws).length:Int)),fls_drop,fls_take]
 rw[show (w::ws).length - 1=ws.length by simp,show ((w::ws).drop 1).take ws.length=ws by simp,i_copy n ws (by omega)]
 simp only[gd_t,bd_s,push_ok h,push_fls]
 rw[push_len (z:=x)]
theorem i_sized (n:Nat) (x:Int):f32 (n+1) x=some x:=by rw[f32]
theorem i_finite (n:Nat) (x:Nat):f160 (n+1) x=some (fin32 x):=by rw[f160,sub_finite]
theorem s_fromx (n:Nat) {i:Int} (h0:0≤i) (h1:i<4294967296):f127 (n+2) i=some (canon .f32 i.toNat):=by
 rw[f127,u32_wrap h0 h1]
 show bd (if 0≤i then some (canon .f32 i.toNat) else none) _=_
 rw[if_pos h0];rfl
theorem i_scale_loop (n:Nat) (N:Nat) (cs:List T) (by_:Nat):∀ (zs p acc:List Nat) (m:Nat),acc.length+zs.length<1048576→p.length+zs.length<1048576→zs.length<m →
  f131.l0 n m N cs by_ acc.length (fls .f32 acc) (p++zs).length (fls .f32 (p++zs)) ((p++zs).length:Int) (p.length:Int)=some ((acc++zs.map fun z=>fmul .f32 z by_).length,fls .f32 (acc++zs.map fun z=>fmul .f32 z by_)):=by
 intro zs
 induction zs with
 | nil =>
   intro p acc m _ _ hm
   obtain ⟨m,rfl⟩:∃ k,m=k+1:=⟨m - 1,by omega⟩
   rw[f131.l0,lt_end]
   simp[br_f]
 | cons z zs ih =>
   intro p acc m ha hp hm
   obtain ⟨m,rfl⟩:∃ k,m=k+1:=⟨m - 1,by omega⟩
   have ha':acc.length<1048576:=by simp at ha;omega
   rw[f131.l0,lt_mid,in_mid,toNat_len,okAt_mid,fAt_mid]
   have:=ih (p++[z]) (acc++[fmul .f32 z by_]) m (by simp at ha ⊢;omega) (by simp at hp ⊢;omega) (by simp at hm;omega)
   simp only[br_t,gd_t,Bool.and_self,push_fls,push_ok (show acc.length<2147483648 by omega),wrap_len (z:=z) (show p.length<4611686018427387904 by simp at hp;omega)]
   simpa using this
theorem i_scaledq (n:Nat) (xs:List Nat) (by_:Nat) (hx:xs.length<1048576) (hn:xs.length<n):f131 (n+1) xs.length (fls .f32 xs) by_=some ((xs.map fun z=>fmul .f32 z by_).length,fls .f32 (xs.map fun z=>fmul .f32 z by_)):=by
 rw[f131]
 have e:=i_scale_loop n xs.length (fls .f32 xs) by_ xs [] [] n (by simpa using hx) (by simpa using hx) (by omega)
 have e:f131.l0 n n xs.length (fls .f32 xs) by_ 0 [] xs.length (fls .f32 xs) (xs.length:Int) 0=some ((xs.map fun z=>fmul .f32 z by_).length,fls .f32 (xs.map fun z=>fmul .f32 z by_)):=e
 rw[e];rfl
theorem i_absolute (n:Nat) {x:Nat} (hg:W32 x):f177 (n+2) x=some (size32 x):=by
 obtain ⟨h1,h2⟩:=abs_size hg.1 hg.2 n
 rw[f177,fltToFlt_wide]
 simp only[bd,h1,h2]
def peakM (m:Nat) (xs:List Nat):Nat:=xs.foldl (fun m x=>if fgt .f32 (size32 x) m then size32 x else m) m
theorem i_peak_loop (n:Nat) (N:Nat) (cs:List T):∀ (zs p:List Nat) (mx m:Nat),(∀ x∈zs,W32 x)→p.length+zs.length<1048576→zs.length<m →
  f166.l0 (n+2) m N cs mx (p++zs).length (fls .f32 (p++zs)) ((p++zs).length:Int) (p.length:Int)=some (peakM mx zs):=by
 intro zs
 induction zs with
 | nil =>
   intro p mx m _ _ hm
   obtain ⟨m,rfl⟩:∃ k,m=k+1:=⟨m - 1,by omega⟩
   rw[f166.l0,lt_end];rfl
 | cons z zs ih =>
   intro p mx m hz hp hm
   obtain ⟨m,rfl⟩:∃ k,m=k+1:=⟨m - 1,by omega⟩
   have ih' :=fun mx=>ih (p++[z]) mx m (fun x hx=>hz x (by simp[hx])) (by simp at hp ⊢;omega) (by simp at hm;omega)
   simp only[List.append_assoc,List.cons_append,List.nil_append] at ih'
   rw[f166.l0,lt_mid,in_mid,toNat_len,okAt_mid,fAt_mid]
   simp only[br_t,gd_t,Bool.and_self,i_absolute n (hz z (by simp)),bd_s,wrap_len (z:=z) (show p.length<4611686018427387904 by simp at hp;omega)]
   show _=some (peakM (if fgt .f32 (size32 z) mx then size32 z else mx) zs)
   cases fgt .f32 (size32 z) mx
   ·exact ih' mx
   ·exact ih' _
theorem i_peak (n:Nat) (xs:List Nat) (hx:∀ x∈xs,W32 x) (hl:xs.length<1048576) (hn:xs.length<n):f166 (n+3) xs.length (fls .f32 xs)=some (peakM 0 xs):=by
 rw[f166]
 have e:=i_peak_loop n xs.length (fls .f32 xs) xs [] 0 (n+2) hx (by simpa using hl) (by omega)
 have e:f166.l0 (n+2) (n+2) xs.length (fls .f32 xs) 0 xs.length (fls .f32 xs) (xs.length:Int) 0=some (peakM 0 xs):=e
 rw[e];rfl
theorem i_fol (n:Nat) (a r:Nat) {l x:Nat} (hx:W32 x):f175 (n+3) a r l x=some (a,r,levelM a r l x):=by
 rw[f175,i_absolute n hx]
 unfold levelM
 simp only[bd_s,i_flush n (w32_fadd _ _)]
 cases fgt .f32 (size32 x) l <;>rfl
theorem i_gain (n l t q:Nat):f176 (n+1) l t q=some (gainM l t q):=by
 rw[f176]
 unfold gainM
 cases fgt .f32 l t <;>rfl
theorem i_duck_loop (n:Nat) (a r t q u1 u2 u3 u4 u5:Nat) (M:Nat) (cs:List T):∀ (zs ys p s acc:List Nat) (l m:Nat),ys.length=zs.length→s.length=p.length→(∀ x∈ys,W32 x)→acc.length+zs.length<1048576→p.length+zs.length<1048576→zs.length<m →
  f164.l0 (n+3) m M cs (s++ys).length (fls .f32 (s++ys)) a r l t q u1 u2 u3 u4 u5 acc.length (fls .f32 acc) (p++zs).length (fls .f32 (p++zs)) ((p++zs).length:Int) (p.length:Int) =
   some (a,r,(scan (duckStep a r t q) l (zs.zip ys)).2,t,q,u1,u2,u3,u4,u5,(acc++(scan (duckStep a r t q) l (zs.zip ys)).1).length,fls .f32 (acc++(scan (duckStep a r t q) l (zs.zip ys)).1)):=by
 intro zs
 induction zs with
 | nil =>
   intro ys p s acc l m _ _ _ _ _ hm
   obtain ⟨m,rfl⟩:∃ k,m=k+1:=⟨m - 1,by omega⟩
   rw[f164.l0,lt_end];simp[br_f,scan]
 | cons z zs ih =>
   intro ys p s acc l m hl hs hy ha hp hm
   obtain ⟨m,rfl⟩:∃ k,m=k+1:=⟨m - 1,by omega⟩
   cases ys with
   | nil=>simp at hl
   | cons y ys =>
     have e1:okAt [.flt .f32] (fls .f32 (s++y::ys)) p.length=true:=by rw[← hs];exact okAt_mid
     have e2:fAt (fls .f32 (s++y::ys)) p.length=y:=by rw[← hs];exact fAt_mid
     have e3:decide ((0:Int)≤(p.length:Int)∧(p.length:Int)<((s++y::ys).length:Int))=true:=by rw[← hs];exact in_mid
     have ha':acc.length<1048576:=by simp at ha;omega
     rw[f164.l0,lt_mid,in_mid,toNat_len,okAt_mid,fAt_mid,e1,e2,e3]
     simp only[br_t,gd_t,Bool.and_self,i_fol n a r (hy y (by simp)),i_gain (n+2),bd_s,push_ok (show acc.length<2147483648 by omega),push_fls,wrap_len (z:=z) (show p.length<4611686018427387904 by simp at hp;omega)]
     have:=ih ys (p++[z]) (s++[y]) (acc++[fmul .f32 z (gainM (levelM a r l y) t q)]) (levelM a r l y) m (by simpa using hl) (by simp[hs]) (fun x hx=>hy x (by simp[hx])) (by simp at ha ⊢;omega) (by simp at hp ⊢;omega) (by simp at hm;omega)
     simpa [scan,duckStep] using this
theorem i_duck (n:Nat) (a r l t q:Nat) (xs ys:List Nat) (hy:∀ x∈ys,W32 x) (hlen:ys.length=xs.length) (hl:xs.length≤256) (hn:xs.length<n) :
  f164 (n+4) a r l t q xs.length (fls .f32 xs) ys.length (fls .f32 ys)=some ((scan (duckStep a r t q) l (xs.zip ys)).1.length,fls .f32 (scan (duckStep a r t q) l (xs.zip ys)).1,a,r,(scan (duckStep a r t q) l (xs.zip ys)).2,t,q,true):=by
 rw[f164,i_few,decide_eq_true (show (xs.length:Int)≤256 by omega),show (((ys.length:Nat):Int) != ((xs.length:Nat):Int))=false by simp[hlen]]
 have e:=i_duck_loop n a r t q 0 0 0 0 0 xs.length (fls .f32 xs) xs ys [] [] [] l (n+3) hlen rfl hy (by simp;omega) (by simp;omega) (by omega)
 have e:f164.l0 (n+3) (n+3) xs.length (fls .f32 xs) ys.length (fls .f32 ys) a r l t q 0 0 0 0 0 0 [] xs.length (fls .f32 xs) (xs.length:Int) 0=_:=e
 simp only[bd_s,br_not,br_t,br_f,e];rfl
theorem i_runsqueeze (n:Nat) (a r l t q:Nat) (xs:List Nat) (hx:∀ x∈xs,W32 x) (hl:xs.length≤256) (hn:xs.length<n) :
  f135 (n+5) a r l t q xs.length (fls .f32 xs)=some ((scan (duckStep a r t q) l (xs.zip xs)).1.length,fls .f32 (scan (duckStep a r t q) l (xs.zip xs)).1,a,r,(scan (duckStep a r t q) l (xs.zip xs)).2,t,q,true):=by
 rw[f135]
 simp only[i_duck n a r l t q xs xs hx rfl hl hn,bd_s]
def clipM (lim x:Nat):Nat:=if fgt .f32 (size32 x) lim then (if flt .f32 x 0 then negF .f32 lim else lim) else x
def limT (lim p:Nat):Nat:=if fgt .f32 p lim then fdiv .f32 lim p else 1065353216
def limG (t gn:Nat):Nat:=if flt .f32 t gn then t else if fne .f32 gn gn then t else gn
def limStep (lim rise:Nat) (s:Nat × List Nat) (x:Nat):Nat × (Nat × List Nat) :=
 (clipM lim (fmul .f32 ((s.2++[x]).getD 0 0) (limG (limT lim (peakM 0 (s.2++[x]))) (fadd .f32 s.1 rise))),(limG (limT lim (peakM 0 (s.2++[x]))) (fadd .f32 s.1 rise),(s.2++[x]).drop 1))
theorem w32_clip {lim x:Nat} (hl:W32 lim) (hx:W32 x):W32 (clipM lim x):=by
 unfold clipM
 split
 ·split
  ·exact w32_negF hl
  ·exact hl
 ·exact hx
theorem w32_one:W32 1065353216:=⟨by decide,by decide⟩
theorem w32_limG {t gn:Nat} (ht:W32 t) (hg:W32 gn):W32 (limG t gn):=by
 unfold limG
 split
 ·exact ht
 ·split
  ·exact ht
  ·exact hg
theorem w32_limT {lim p:Nat}:W32 (limT lim p):=by
 unfold limT
 split
 ·exact w32_fdiv _ _
 ·exact w32_one
theorem lim_length (lim rise:Nat):∀ (xs:List Nat) (s:Nat × List Nat),(scan (limStep lim rise) s xs).2.2.length=s.2.length:=by
 intro xs
 induction xs with
 | nil=>intro s;rfl
 | cons x xs ih =>
   intro s
   simp only[scan]
   rw[ih]
   simp[limStep]
theorem i_clip (n:Nat) (lim:Nat) {x:Nat} (hx:W32 x):f165 (n+3) x lim=some (clipM lim x):=by
 rw[f165,i_absolute n hx]
 simp only[bd_s,br_not]
 unfold clipM
 cases fgt .f32 (size32 x) lim <;>cases flt .f32 x 0 <;>rfl
theorem i_lim_loop (n:Nat) (N:Nat) (cs:List T) (lim rise x8 x9 x10 n11:Nat) (l12:List T) (hl:W32 lim):∀ (zs p acc:List Nat) (s:Nat × List Nat) (m:Nat),(∀ x∈zs,W32 x)→(W32 s.1∧AllW s.2)→s.2.length≤64→acc.length+zs.length<1048576→p.length+zs.length<1048576→zs.length<m →
  f138.l0 (n+100) m N cs lim rise s.1 s.2.length (fls .f32 s.2) x8 x9 x10 n11 l12 acc.length (fls .f32 acc) (p++zs).length (fls .f32 (p++zs)) ((p++zs).length:Int) (p.length:Int) =
   some (lim,rise,(scan (limStep lim rise) s zs).2.1,(scan (limStep lim rise) s zs).2.2.length,fls .f32 (scan (limStep lim rise) s zs).2.2,x8,x9,x10,n11,l12,(acc++(scan (limStep lim rise) s zs).1).length,fls .f32 (acc++(scan (limStep lim rise) s zs).1)):=by
 intro zs
 induction zs with
 | nil =>
   intro p acc s m _ _ _ _ _ hm
   obtain ⟨m,rfl⟩:∃ k,m=k+1:=⟨m - 1,by omega⟩
   rw[f138.l0,lt_end]
   simp[br_f,scan]
 | cons z zs ih =>
   intro p acc s m hz hs hw ha hp hm
   obtain ⟨m,rfl⟩:∃ k,m=k+1:=⟨m - 1,by omega⟩
   have hp':p.length<1048576:=by simp at hp;omega
   have ha':acc.length<1048576:=by simp at ha;omega
   have hall:AllW (s.2++[z]):=fun y hy=>by
    simp only[List.mem_append,List.mem_singleton] at hy
    rcases hy with h | rfl
    ·exact hs.2 y h
    ·exact hz _ (by simp)
   have hpk:=i_peak (n+97) (s.2++[z]) hall (by simp;omega) (by simp;omega)
   have hlen:s.2.length+1=(s.2++[z]).length:=by simp
   have c1:decide ((0:Int)≤1∧(1:Int)≤((s.2++[z]).length:Int)∧((s.2++[z]).length:Int)≤((s.2++[z]).length:Int))=true:=decide_eq_true (by simp;omega)
   have c2:((fls .f32 (s.2++[z])).drop 1).take ((s.2++[z]).length - 1)=fls .f32 ((s.2++[z]).drop 1):=by
    rw[fls_drop,fls_take,List.take_of_length_le (by simp)]
   have c3:decide ((0:Int)≤0∧(0:Int)<((s.2++[z]).length:Int))=true:=decide_eq_true (by simp)
   have c4:okAt [.flt .f32] (fls .f32 (s.2++[z])) 0=true:=okAt_fls (by simp)
   have c5:(s.2++[z]).length - 1=((s.2++[z]).drop 1).length:=by simp
   rw[c5] at c2
   have c6:Nat.ble (s.2++[z]).length 2147483648=true:=le_ble (by simp;omega)
   have ih' :=ih (p++[z]) (acc++[(limStep lim rise s z).1]) (limStep lim rise s z).2 m (fun x hx=>hz x (by simp[hx]))
    ⟨w32_limG w32_limT (w32_fadd _ _),fun y hy=>hall y (List.mem_of_mem_drop hy)⟩ (by simp[limStep];omega) (by simp at ha ⊢;omega) (by simp at hp ⊢;omega) (by simp at hm;omega)
   rw[show p++[z]++zs=p++z::zs by simp] at ih'
   rw[f138.l0,lt_mid,in_mid,toNat_len,okAt_mid,fAt_mid]
   simp only[br_t,gd_t,Bool.and_self,i_copy (n+99) s.2 (by omega),bd_s,push_fls,hlen,hpk,c1,c2,c3,c4,fAt_fls,c6,i_clip (n+97) lim (w32_fmul _ _),push_ok (show acc.length<2147483648 by omega),wrap_len (z:=z) (show p.length<4611686018427387904 by omega),c5]
   have e1:scan (limStep lim rise) s (z::zs)=((limStep lim rise s z).1::(scan (limStep lim rise) (limStep lim rise s z).2 zs).1,(scan (limStep lim rise) (limStep lim rise s z).2 zs).2):=rfl
   rw[e1]
   have e2:∀ t gn,limT lim (peakM 0 (s.2++[z]))=t→fadd .f32 s.1 rise=gn→∀ g,limG t gn=g→limStep lim rise s z=(clipM lim (fmul .f32 ((s.2++[z]).getD 0 0) g),(g,(s.2++[z]).drop 1)):=by
    rintro t gn rfl rfl g rfl
    rfl
   have e3:acc++(limStep lim rise s z).1::(scan (limStep lim rise) (limStep lim rise s z).2 zs).1=(acc++[(limStep lim rise s z).1])++(scan (limStep lim rise) (limStep lim rise s z).2 zs).1:=by simp
   have e4:(acc++[(limStep lim rise s z).1]).length=acc.length+1:=by simp
   simp only[e3]
   rw[e4] at ih'
   cases hc:fgt .f32 (peakM 0 (s.2++[z])) lim
   ·have ht:limT lim (peakM 0 (s.2++[z]))=1065353216:=by unfold limT;simp[hc]
    cases h1:flt .f32 1065353216 (fadd .f32 s.1 rise)
    ·cases h2:fne .f32 (fadd .f32 s.1 rise) (fadd .f32 s.1 rise)
     ·have e:=e2 _ _ ht rfl (fadd .f32 s.1 rise) (by unfold limG;simp[h1,h2])
      rw[e] at ih' ⊢
      exact ih'
     ·have e:=e2 _ _ ht rfl 1065353216 (by unfold limG;simp[h1,h2])
      rw[e] at ih' ⊢
      exact ih'
    ·have e:=e2 _ _ ht rfl 1065353216 (by unfold limG;simp[h1])
     rw[e] at ih' ⊢
     exact ih'
   ·have ht:limT lim (peakM 0 (s.2++[z]))=fdiv .f32 lim (peakM 0 (s.2++[z])):=by unfold limT;simp[hc]
    cases h1:flt .f32 (fdiv .f32 lim (peakM 0 (s.2++[z]))) (fadd .f32 s.1 rise)
    ·cases h2:fne .f32 (fadd .f32 s.1 rise) (fadd .f32 s.1 rise)
     ·have e:=e2 _ _ ht rfl (fadd .f32 s.1 rise) (by unfold limG;simp[h1,h2])
      rw[e] at ih' ⊢
      exact ih'
     ·have e:=e2 _ _ ht rfl (fdiv .f32 lim (peakM 0 (s.2++[z]))) (by unfold limG;simp[h1,h2])
      rw[e] at ih' ⊢
      exact ih'
    ·have e:=e2 _ _ ht rfl (fdiv .f32 lim (peakM 0 (s.2++[z]))) (by unfold limG;simp[h1])
     rw[e] at ih' ⊢
     exact ih'
theorem i_islimit (n:Nat) (lim:Nat):f130 (n+2) lim=some (fin32 lim&&fgt .f32 lim 0):=by
 rw[f130,i_finite]
 cases fin32 lim <;>rfl
theorem i_runlimiter (n:Nat) (lim rise g:Nat) (w xs:List Nat) (hl:W32 lim) (hlim:(fin32 lim&&fgt .f32 lim 0)=true) (hg:W32 g) (hw:AllW w) (hwl:w.length≤64) (hx:∀ x∈xs,W32 x) (hxl:xs.length≤256) (hn:300<n) :
  f138 (n+101) lim rise g w.length (fls .f32 w) xs.length (fls .f32 xs) =
   some ((scan (limStep lim rise) (g,w) xs).1.length,fls .f32 (scan (limStep lim rise) (g,w) xs).1,lim,rise,(scan (limStep lim rise) (g,w) xs).2.1,(scan (limStep lim rise) (g,w) xs).2.2.length,fls .f32 (scan (limStep lim rise) (g,w) xs).2.2,true):=by
 have e:=i_lim_loop n xs.length (fls .f32 xs) lim rise 0 0 0 0 [] hl xs [] [] (g,w) (n+100) hx ⟨hg,hw⟩ hwl (by simp;omega) (by simp;omega) (by omega)
 have e:f138.l0 (n+100) (n+100) xs.length (fls .f32 xs) lim rise g w.length (fls .f32 w) 0 0 0 0 [] 0 [] xs.length (fls .f32 xs) (xs.length:Int) 0=_:=e
 have hlen:=lim_length lim rise xs (g,w)
 rw[f138,i_islimit,hlim,i_few,i_copy (n+99) w (by omega),decide_eq_false (show ¬ (w.length:Int)>64 by omega),decide_eq_true (show (xs.length:Int)≤256 by omega)]
 simp only[bd_s,br_not,br_t,br_f,e,i_copy (n+99) (scan (limStep lim rise) (g,w) xs).2.2 (by simp at hlen;omega),List.nil_append]
theorem i_clips_loop (n:Nat) (N:Nat) (cs:List T) (lim:Nat):∀ (zs p acc:List Nat) (m:Nat),(∀ x∈zs,W32 x)→acc.length+zs.length<1048576→p.length+zs.length<1048576→zs.length<m →
  f136.l0 (n+3) m N cs lim acc.length (fls .f32 acc) (p++zs).length (fls .f32 (p++zs)) ((p++zs).length:Int) (p.length:Int)=some ((acc++zs.map (clipM lim)).length,fls .f32 (acc++zs.map (clipM lim))):=by
 intro zs
 induction zs with
 | nil =>
   intro p acc m _ _ _ hm
   obtain ⟨m,rfl⟩:∃ k,m=k+1:=⟨m - 1,by omega⟩
   rw[f136.l0,lt_end];simp[br_f]
 | cons z zs ih =>
   intro p acc m hz ha hp hm
   obtain ⟨m,rfl⟩:∃ k,m=k+1:=⟨m - 1,by omega⟩
   have ha':acc.length<1048576:=by simp at ha;omega
   rw[f136.l0,lt_mid,in_mid,toNat_len,okAt_mid,fAt_mid]
   simp only[br_t,gd_t,Bool.and_self,i_clip n lim (hz z (by simp)),bd_s,push_ok (show acc.length<2147483648 by omega),push_fls,wrap_len (z:=z) (show p.length<4611686018427387904 by simp at hp;omega)]
   have:=ih (p++[z]) (acc++[clipM lim z]) m (fun x hx=>hz x (by simp[hx])) (by simp at ha ⊢;omega) (by simp at hp ⊢;omega) (by simp at hm;omega)
   simpa using this
theorem i_clips (n:Nat) (lim:Nat) (xs:List Nat) (hx:∀ x∈xs,W32 x) (hl:xs.length≤256) (hn:xs.length<n):f136 (n+4) xs.length (fls .f32 xs) lim=some (xs.length,fls .f32 (xs.map (clipM lim)),true):=by
 have e:=i_clips_loop n xs.length (fls .f32 xs) lim xs [] [] (n+3) hx (by simp;omega) (by simp;omega) (by omega)
 have e:f136.l0 (n+3) (n+3) xs.length (fls .f32 xs) lim 0 [] xs.length (fls .f32 xs) (xs.length:Int) 0=_:=e
 rw[f136,i_few,decide_eq_true (show (xs.length:Int)≤256 by omega)]
 simp only[bd_s,br_not,br_t,e,List.nil_append,List.length_map]
structure Eff where
 kind:Int
 len:Int
 nums:List Nat
def effC (e:Eff):List T:=[.int .i64 e.kind,.int .i64 e.len,.lst e.nums.length (fls .f32 e.nums)]
def effs (es:List Eff):List T:=es.flatMap effC
def eAt (es:List Eff) (i:Nat):Eff:=es.getD i ⟨5,0,[]⟩
theorem eff_get {c:Nat} (hc:c<3):∀ (ts:List Eff) (i:Nat),i<ts.length→(effs ts)[i * 3+c]?=(effC (eAt ts i))[c]?
 | [],i,h=>by simp at h
 | t::ts,0,_=>by
   show (effC t++effs ts)[0 * 3+c]?=_
   rw[List.getElem?_append_left (by simp[effC];omega),Nat.zero_mul,Nat.zero_add];rfl
 | t::ts,i+1,h=>by
   show (effC t++effs ts)[(i+1) * 3+c]?=_
   rw[List.getElem?_append_right (by simp[effC];omega),show (i+1) * 3+c - (effC t).length=i * 3+c by simp[effC];omega,eff_get hc ts i (by simpa using h)]
   rfl
section
variable {ts:List Eff} {i:Nat} (h:i<ts.length)
include h
theorem okE:okAt [.int .i64,.int .i64,.lst] (effs ts) (i * 3+0)=true:=by
 have h0:=eff_get (c:=0) (by decide) ts i h
 have h1:=eff_get (c:=1) (by decide) ts i h
 have h2:=eff_get (c:=2) (by decide) ts i h
 simp only[effC,List.getElem?_cons_zero,List.getElem?_cons_succ] at h0 h1 h2
 rw[Nat.add_zero] at h0
 simp[okAt,Nat.add_assoc,h0,h1,h2,isCK]
theorem kE:iAt (effs ts) (i * 3+0)=(eAt ts i).kind:=by unfold iAt;rw[eff_get (c:=0) (by decide) ts i h];rfl
theorem gE:iAt (effs ts) (i * 3+0+1)=(eAt ts i).len:=by unfold iAt;rw[show i * 3+0+1=i * 3+1 from rfl,eff_get (c:=1) (by decide) ts i h];rfl
theorem nE:nAt (effs ts) (i * 3+0+1+1)=(eAt ts i).nums.length:=by unfold nAt;rw[show i * 3+0+1+1=i * 3+2 from rfl,eff_get (c:=2) (by decide) ts i h];rfl
theorem lE:lAt (effs ts) (i * 3+0+1+1)=fls .f32 (eAt ts i).nums:=by unfold lAt;rw[show i * 3+0+1+1=i * 3+2 from rfl,eff_get (c:=2) (by decide) ts i h];rfl
theorem eff_drop:ts.drop i=eAt ts i::ts.drop (i+1):=by
 rw[List.drop_eq_getElem_cons h]
 simp[eAt,List.getD,h]
theorem eAt_mem:eAt ts i∈ts:=by
 have:eAt ts i=ts[i]:=by simp[eAt,List.getD,h]
 rw[this];exact List.getElem_mem h
end
inductive Ef
 | scale (g:Nat)
 | filt (f1 f2 f3 f4 f5:Nat)
 | echo (L:Nat) (p q:Nat)
 | squeeze (p q r s:Nat)
 | clip (g:Nat)
 | bend
 | lim (A:Nat) (l:Nat) (r:Nat)
def Ef.eff:Ef→Eff
 | .scale g=>⟨0,0,[g]⟩
 | .filt a b c d e=>⟨1,0,[a,b,c,d,e]⟩
 | .echo L p q=>⟨2,(L:Int),[p,q]⟩
 | .squeeze p q r s=>⟨3,0,[p,q,r,s]⟩
 | .clip g=>⟨4,0,[g]⟩
 | .bend=>⟨5,0,[]⟩
 | .lim A l r=>⟨6,(A:Int),[l,r]⟩
def Ef.Ok:Ef→Prop
 | .echo L _ _=>1≤L∧L≤32
 | .lim A l _=>A≤32∧W32 l∧(fin32 l&&fgt .f32 l 0)=true
 | .clip g=>W32 g
 | _=>True
def effL (es:List Ef):List Eff:=es.map (·.eff)
def row (ls:List (List Nat)) (i:Nat):List Nat:=ls.getD i []
section
variable {ls:List (List Nat)} {i:Nat} (h:i<ls.length)
include h
theorem row_get:(ls.map rwF)[i]?=some (rwF (row ls i)):=by simp[row,List.getD,h]
theorem okR:okAt [.lst] (ls.map rwF) i=true:=by simp[okAt,row_get h,isCK,rwF]
theorem nR:nAt (ls.map rwF) i=(row ls i).length:=by unfold nAt;rw[row_get h];rfl
theorem lR:lAt (ls.map rwF) i=fls .f32 (row ls i):=by unfold lAt;rw[row_get h];rfl
theorem row_drop:ls.drop i=row ls i::ls.drop (i+1):=by
 rw[List.drop_eq_getElem_cons h]
 simp[row,List.getD,h]
end
theorem push_rw (P:List (List Nat)) (r:List Nat):P.map rwF++setN (reps 1 [(T.lst 0 [])]) 0 [T.lst r.length (fls .f32 r)]=(P++[r]).map rwF:=by
 rw[List.map_append];rfl
theorem row_set {ls:List (List Nat)} {i j:Nat} {r:List Nat} (hj:j<ls.length):row (ls.set i r) j=if i=j then r else row ls j:=by
 unfold row
 by_cases h:i=j
 ·subst h;simp[List.getD,hj]
 ·simp[List.getD,h,List.getElem?_set_ne]
def Ef.keep:Ef→Nat
 | .scale _=>0
 | .filt .. =>2
 | .echo L _ _=>L
 | .squeeze .. =>1
 | .clip _=>0
 | .bend=>0
 | .lim A _ _=>A+1
def efAt (es:List Ef) (i:Nat):Ef:=es.getD i .bend
theorem effL_at {es:List Ef} {i:Nat} (h:i<es.length):eAt (effL es) i=(efAt es i).eff:=by simp[eAt,effL,efAt,List.getD,h]
theorem ef_drop {es:List Ef} {i:Nat} (h:i<es.length):es.drop i=efAt es i::es.drop (i+1):=by
 rw[List.drop_eq_getElem_cons h]
 simp[efAt,List.getD,h]
theorem efAt_mem {es:List Ef} {i:Nat} (h:i<es.length):efAt es i∈es:=by
 have:efAt es i=es[i]:=by simp[efAt,List.getD,h]
 rw[this];exact List.getElem_mem h
theorem effL_length (es:List Ef):(effL es).length=es.length:=by simp[effL]
theorem s_counts (n:Nat) {e:Ef} (h:e.Ok):∃ c:Int,f93 (n+1) e.eff.kind e.eff.len=some (c,((e.keep:Nat):Int)):=by
 rw[f93]
 cases e with
 | scale g=>exact ⟨_,rfl⟩
 | filt _ _ _ _ _=>exact ⟨_,rfl⟩
 | echo L p q=>exact ⟨_,rfl⟩
 | squeeze _ _ _ _=>exact ⟨_,rfl⟩
 | clip g=>exact ⟨_,rfl⟩
 | bend=>exact ⟨_,rfl⟩
 | lim A k r =>
   have hA:A≤32:=h.1
   have w:IntKind.i64.wrap ((1:Int)+(A:Int))=((A+1:Nat):Int):=by rw[wrap64] <;>omega
   refine ⟨2,?_⟩
   have e:(Ef.lim A k r).eff.len=(A:Int):=rfl
   rw[e,w]
   rfl
theorem setN_fls {k:FloatKind} {L:List Nat} {i v:Nat}:setN (fls k L) i [T.flt k v]=fls k (L.set i v):=by
 rw[setN_one];simp[fls,List.map_set]
def newRow:Ef→List Nat
 | .lim A k r=>(List.replicate (Ef.lim A k r).keep 0).set 0 1065353216
 | e=>List.replicate e.keep 0
theorem new_facts (e:Ef):((e.eff.kind==6)=false∧newRow e=List.replicate e.keep 0)∨((e.eff.kind==6)=true∧newRow e=(List.replicate e.keep 0).set 0 1065353216∧1≤e.keep):=by
 cases e with
 | lim A k r=>exact .inr ⟨rfl,rfl,by show 1≤A+1;omega⟩
 | scale g=>exact .inl ⟨rfl,rfl⟩
 | filt _ _ _ _ _=>exact .inl ⟨rfl,rfl⟩
 | echo L p q=>exact .inl ⟨rfl,rfl⟩
 | squeeze _ _ _ _=>exact .inl ⟨rfl,rfl⟩
 | clip g=>exact .inl ⟨rfl,rfl⟩
 | bend=>exact .inl ⟨rfl,rfl⟩
theorem newRow_length (e:Ef):(newRow e).length=e.keep:=by
 rcases new_facts e with ⟨-,h⟩ | ⟨-,h,-⟩ <;>rw[h] <;>simp
theorem keep_le {e:Ef} (h:e.Ok):e.keep≤33:=by
 cases e with
 | lim A k r=>have hA:A≤32:=h.1;show A+1≤33;omega
 | echo L p q=>have h2:L≤32:=h.2;show L≤33;omega
 | scale g=>show 0≤33;omega
 | filt _ _ _ _ _=>show 2≤33;omega
 | squeeze _ _ _ _=>show 1≤33;omega
 | clip g=>show 0≤33;omega
 | bend=>show 0≤33;omega
theorem s_new_loop (n:Nat) (es:List Ef) (hl:es.length≤100) (hok:∀ e∈es,e.Ok):∀ (j i m:Nat) (P:List (List Nat)),i+j=es.length→P.length≤i→j<m →
  f54.l0 (n+1) m es.length (effs (effL es)) P.length (P.map rwF) (i:Int)=some ((P++(es.drop i).map newRow).length,(P++(es.drop i).map newRow).map rwF):=by
 intro j
 induction j with
 | zero =>
   intro i m P hi hP hm
   obtain ⟨m,rfl⟩:∃ k,m=k+1:=⟨m - 1,by omega⟩
   rw[f54.l0,nlt_dec (by omega),List.drop_eq_nil_of_le (by omega)]
   simp[br]
 | succ j ih =>
   intro i m P hi hP hm
   obtain ⟨m,rfl⟩:∃ k,m=k+1:=⟨m - 1,by omega⟩
   have h:i<es.length:=by omega
   have he:i<(effL es).length:=by rw[effL_length];exact h
   have hE:=hok _ (efAt_mem h)
   have hd:=ef_drop h
   have hk5:=keep_le hE
   rw[f54.l0,lt_dec h,in_dec h,Int.toNat_natCast,okE he,kE he,gE he,effL_at h,hd]
   generalize efAt es i=e at hE hk5
   obtain ⟨c,hc⟩:=s_counts n hE
   have step:=ih (i+1) m (P++[newRow e]) (by omega) (by simp;omega) (by omega)
   have hg:decide ((0:Int)≤((e.keep:Nat):Int)∧((e.keep:Nat):Int)≤(2147483648:Int))=true:=decide_eq_true (by omega)
   have hpush:=push_rw P (newRow e)
   rw[newRow_length] at hpush
   rcases new_facts e with ⟨h6,hr⟩ | ⟨h6,hr,hk⟩
   ·rw[hr] at hpush
    simp only[br_t,br_f,Bool.and_self,gd_t,hc,bd_s,hg,Int.toNat_natCast,reps_fls,h6,push_ok (show P.length<2147483648 by omega),wrap_succ (show i<9223372036854775807 by omega)]
    rw[hpush,← hr,push_len (z:=newRow e),step]
    simp
   ·have hg2:decide ((0:Int)≤0∧(0:Int)<((e.keep:Nat):Int))=true:=decide_eq_true (by omega)
    have hb:Nat.ble 1 (fls .f32 (List.replicate e.keep 0)).length=true:=by rw[Nat.ble_eq];simp[fls];omega
    rw[hr] at hpush
    simp only[br_t,br_f,Bool.and_self,gd_t,hc,bd_s,hg,Int.toNat_natCast,reps_fls,h6,hg2,hb,setN_fls,push_ok (show P.length<2147483648 by omega),wrap_succ (show i<9223372036854775807 by omega)]
    rw[hpush,← hr,push_len (z:=newRow e),step]
    simp
def Sok (es:List Ef) (ls:List (List Nat)):Prop:=ls.length=es.length∧∀ i,i<ls.length→(row ls i).length=(efAt es i).keep∧(∀ y∈row ls i,W32 y)
theorem Sok.set {es:List Ef} {ls:List (List Nat)} (h:Sok es ls) {i:Nat} {r:List Nat} (hi:i<ls.length) (hr:r.length=(efAt es i).keep) (hw:∀ y∈r,W32 y):Sok es (ls.set i r):=by
 refine ⟨by rw[List.length_set];exact h.1,fun j hj => ?_⟩
 rw[List.length_set] at hj
 rw[row_set hj]
 by_cases e:i=j
 ·subst e;rw[if_pos rfl];exact ⟨hr,hw⟩
 ·rw[if_neg e];exact h.2 j hj
theorem new_ok (es:List Ef):Sok es (es.map newRow):=by
 refine ⟨by simp,fun i hi => ?_⟩
 have h:i<es.length:=by simpa using hi
 have e:row (es.map newRow) i=newRow (efAt es i):=by simp[row,efAt,List.getD,h]
 rw[e]
 refine ⟨newRow_length _,fun y hy => ?_⟩
 rcases new_facts (efAt es i) with ⟨-,hr⟩ | ⟨-,hr,-⟩
 ·rw[hr] at hy
  obtain ⟨-,rfl⟩:=List.mem_replicate.1 hy
  exact w32_zero
 ·rw[hr] at hy
  rcases List.mem_or_eq_of_mem_set hy with h' | rfl
  ·obtain ⟨-,rfl⟩:=List.mem_replicate.1 h'
   exact w32_zero
  ·exact w32_one
def bendM (x:Nat):Nat:=if fge .f32 x 1065353216=true then 1065353216 else if fle .f32 x 3212836864=true then 3212836864 else fmul .f32 x (fsub .f32 1069547520 (fmul .f32 1056964608 (fmul .f32 x x)))
theorem i_bend (n x:Nat):f137 (n+1) x=some (bendM x):=by
 rw[f137]
 unfold bendM
 cases fge .f32 x 1065353216
 ·cases fle .f32 x 3212836864 <;>rfl
 ·rfl
theorem i_bends_loop (n:Nat) (N:Nat) (cs:List T):∀ (zs p acc:List Nat) (m:Nat),acc.length+zs.length<1048576→p.length+zs.length<1048576→zs.length<m →
  f100.l1 (n+1) m N cs acc.length (fls .f32 acc) (p++zs).length (fls .f32 (p++zs)) ((p++zs).length:Int) (p.length:Int)=some ((acc++zs.map bendM).length,fls .f32 (acc++zs.map bendM)):=by
 intro zs
 induction zs with
 | nil =>
   intro p acc m _ _ hm
   obtain ⟨m,rfl⟩:∃ k,m=k+1:=⟨m - 1,by simp at hm;omega⟩
   rw[f100.l1,lt_end];simp[br]
 | cons z zs ih =>
   intro p acc m ha hp hm
   obtain ⟨m,rfl⟩:∃ k,m=k+1:=⟨m - 1,by simp at hm;omega⟩
   have:=ih (p++[z]) (acc++[bendM z]) m (by simp at ha ⊢;omega) (by simp at hp ⊢;omega) (by simp at hm;omega)
   rw[f100.l1,lt_mid,in_mid,toNat_len,okAt_mid,fAt_mid,wrap_len (z:=z) (show p.length<4611686018427387904 by simp at hp;omega)]
   simp only[br_t,gd_t,Bool.and_self,i_bend,bd_s,push_ok (show acc.length<2147483648 by simp at ha;omega),push_fls]
   simpa using this
def echoStep (p q:Nat) (w:List Nat) (x:Nat):Nat × List Nat:=(fadd .f32 x (fmul .f32 q (headM w)),tookM w (flushM (fadd .f32 x (fmul .f32 p (headM w)))))
theorem i_echo_loop (n:Nat) (N:Nat) (cs:List T) (pp qq:Nat):∀ (zs p acc w:List Nat) (m:Nat),0<w.length→w.length≤64→acc.length+zs.length<1048576→p.length+zs.length<1048576→zs.length<m →
  f100.l0 (n+3) m N cs 2 (fls .f32 [pp,qq]) w.length (fls .f32 w) acc.length (fls .f32 acc) (p++zs).length (fls .f32 (p++zs)) ((p++zs).length:Int) (p.length:Int) =
   some ((scan (echoStep pp qq) w zs).2.length,fls .f32 (scan (echoStep pp qq) w zs).2,(acc++(scan (echoStep pp qq) w zs).1).length,fls .f32 (acc++(scan (echoStep pp qq) w zs).1)):=by
 intro zs
 induction zs with
 | nil =>
   intro p acc w m _ _ _ _ hm
   obtain ⟨m,rfl⟩:∃ k,m=k+1:=⟨m - 1,by simp at hm;omega⟩
   rw[f100.l0,lt_end];simp[br,scan]
 | cons z zs ih =>
   intro p acc w m h0 h1 ha hp hm
   obtain ⟨m,rfl⟩:∃ k,m=k+1:=⟨m - 1,by simp at hm;omega⟩
   have hlen:(echoStep pp qq w z).2.length=w.length:=took_length h0
   have step:=ih (p++[z]) (acc++[(echoStep pp qq w z).1]) (echoStep pp qq w z).2 m (by omega) (by omega) (by simp at ha ⊢;omega) (by simp at hp ⊢;omega) (by simp at hm;omega)
   have g1:decide ((0:Int)≤0∧(0:Int)<(w.length:Int))=true:=decide_eq_true (by omega)
   have g2:okAt [.flt .f32] (fls .f32 w) 0=true:=okAt_fls h0
   have g3:fAt (fls .f32 w) 0=headM w:=fAt_fls ..
   have g4:decide ((0:Int)≤1∧(1:Int)<((2:Nat):Int))=true:=rfl
   have g5:decide ((0:Int)≤0∧(0:Int)<((2:Nat):Int))=true:=rfl
   have g6:okAt [.flt .f32] (fls .f32 [pp,qq]) 0=true:=rfl
   have g7:okAt [.flt .f32] (fls .f32 [pp,qq]) 1=true:=rfl
   have g8:fAt (fls .f32 [pp,qq]) 0=pp:=rfl
   have g9:fAt (fls .f32 [pp,qq]) 1=qq:=rfl
   have tk:∀ y,f133 (n+3) w.length (fls .f32 w) y=some ((tookM w y).length,fls .f32 (tookM w y)):=fun y=>by
    obtain ⟨v,vs,rfl⟩:∃ v vs,w=v::vs:=by cases w with
     | nil=>simp at h0
     | cons v vs=>exact ⟨v,vs,rfl⟩
    exact i_taken (n+1) v vs y (by simp at h1;omega)
   rw[f100.l0,lt_mid,in_mid,toNat_len,okAt_mid,fAt_mid]
   have w' :=wrap_len (z:=z) (p:=p) (show p.length<4611686018427387904 by simp at hp;omega)
   simp only[br_t,gd_t,Bool.and_self,g1,g2,g3,g4,g5,g6,g7,g8,g9,push_ok (show acc.length<2147483648 by simp at ha;omega),push_fls,i_flush (n+1) (w32_fadd _ _),bd_s,tk,w']
   rw[push_len (z:=(echoStep pp qq w z).1)]
   rw[List.append_assoc,List.append_assoc] at step
   exact step
section
variable {σ τ α β:Type}
theorem scan_sim (f:σ→α→β × σ) (g:τ→α→β × τ) (h:τ→σ) (P:τ→Prop) (hs:∀ t x,P t→f (h t) x=((g t x).1,h (g t x).2)∧P (g t x).2):∀ (xs:List α) (t:τ),P t→scan f (h t) xs=((scan g t xs).1,h (scan g t xs).2)∧P (scan g t xs).2
 | [],t,ht=>⟨rfl,ht⟩
 | x::xs,t,ht=>by
   obtain ⟨e,hp⟩:=hs t x ht
   obtain ⟨e2,hp2⟩:=scan_sim f g h P hs xs _ hp
   refine ⟨?_,hp2⟩
   simp only[scan,e,e2]
theorem scan_pure (f:α→β):∀ (xs:List α),scan (fun (_:List τ) x=>(f x,([]:List τ))) [] xs=(xs.map f,[])
 | []=>rfl
 | x::xs=>by simp only[scan,scan_pure f xs,List.map_cons]
theorem scan_twin (f:σ→α × α→β × σ):∀ (xs:List α) (s:σ),scan f s (xs.zip xs)=scan (fun s x=>f s (x,x)) s xs
 | [],s=>rfl
 | x::xs,s=>by simp only[List.zip_cons_cons,scan,scan_twin f xs]
end
def Ef.step:Ef→List Nat→Nat→Nat × List Nat
 | .scale g,_,x=>(fmul .f32 x g,[])
 | .filt a b c d e,w,x=>((fstep (a,b,c,d,e) 1 true (w.getD 0 0,w.getD 1 0,0,0) x).1,[(fstep (a,b,c,d,e) 1 true (w.getD 0 0,w.getD 1 0,0,0) x).2.1,(fstep (a,b,c,d,e) 1 true (w.getD 0 0,w.getD 1 0,0,0) x).2.2.1])
 | .echo L p q,w,x=>echoStep p q w x
 | .squeeze a r t q,w,x=>((duckStep a r t q (w.getD 0 0) (x,x)).1,[(duckStep a r t q (w.getD 0 0) (x,x)).2])
 | .clip g,_,x=>(clipM g x,[])
 | .bend,_,x=>(bendM x,[])
 | .lim A k r,w,x=>((limStep k r (w.getD 0 0,w.drop 1) x).1,(limStep k r (w.getD 0 0,w.drop 1) x).2.1::(limStep k r (w.getD 0 0,w.drop 1) x).2.2)
def Fit (e:Ef) (w:List Nat):Prop:=w.length=e.keep∧AllW w
theorem w32_bend {x:Nat}:W32 (bendM x):=by
 unfold bendM
 split
 ·exact ⟨by decide,by decide⟩
 ·split
  ·exact ⟨by decide,by decide⟩
  ·exact w32_fmul _ _
theorem w32_at {w:List Nat} (h:AllW w) (i:Nat):W32 (w.getD i 0):=by
 unfold List.getD
 cases hi:w[i]? with
 | none=>exact w32_zero
 | some v=>exact h v (List.mem_of_getElem? hi)
theorem step_fit {e:Ef} (he:e.Ok) {w:List Nat} (h:Fit e w) {x:Nat} (hx:W32 x):W32 (e.step w x).1∧Fit e (e.step w x).2:=by
 obtain ⟨hl,hw⟩:=h
 cases e with
 | scale g=>exact ⟨w32_fmul _ _,rfl,fun y hy=>by cases hy⟩
 | filt a b c d e =>
   obtain ⟨q1,q2,q3,q4,q5⟩:=fstep_w32 (f:=(a,b,c,d,e)) (form:=1) (b:=true) (m:=(w.getD 0 0,w.getD 1 0,0,0)) (x:=x) ⟨w32_at hw 0,w32_at hw 1,w32_zero,w32_zero⟩ hx
   refine ⟨q1,rfl,fun y hy => ?_⟩
   simp only[Ef.step,List.mem_cons,List.not_mem_nil,or_false] at hy
   rcases hy with rfl | rfl
   ·exact q2
   ·exact q3
 | echo L p q =>
   have h1:1≤L∧L≤32:=he
   have hl:w.length=L:=hl
   exact ⟨w32_fadd _ _,(took_length (by omega)).trans hl,allW_took hw (w32_flush (w32_fadd _ _))⟩
 | squeeze a r t q =>
   refine ⟨w32_fmul _ _,rfl,fun y hy => ?_⟩
   simp only[Ef.step,List.mem_cons,List.not_mem_nil,or_false] at hy
   subst hy;exact w32_level ..
 | clip g=>exact ⟨w32_clip he hx,rfl,fun y hy=>by cases hy⟩
 | bend=>exact ⟨w32_bend,rfl,fun y hy=>by cases hy⟩
 | lim A k r =>
   have hl:w.length=A+1:=hl
   refine ⟨w32_clip he.2.1 (w32_fmul _ _),?_,fun y hy => ?_⟩
   ·show (limStep k r (w.getD 0 0,w.drop 1) x).2.2.length+1=A+1
    simp[limStep];omega
   ·simp only[Ef.step,List.mem_cons] at hy
    rcases hy with rfl | hy
    ·exact w32_limG w32_limT (w32_fadd _ _)
    ·have:=List.mem_of_mem_drop hy
     simp only[List.mem_append,List.mem_singleton] at this
     rcases this with h | rfl
     ·exact hw y (List.mem_of_mem_drop h)
     ·exact hx
theorem run_fit {e:Ef} (he:e.Ok) (xs:List Nat) {w:List Nat} (h:Fit e w) (hx:AllW xs):AllW (scan e.step w xs).1∧Fit e (scan e.step w xs).2 :=
 scan_inv (f:=e.step) (P:=Fit e) (Q:=W32) (S:=W32) (fun _ _ hs hq=>step_fit he hs hq) xs w h hx
theorem sim_filt (a b c d e:Nat) (xs w:List Nat) (hl:w.length=2):∃ u v,(scan (Ef.filt a b c d e).step w xs).2=[u,v]∧scan (fstep (a,b,c,d,e) 1 true) (w.getD 0 0,w.getD 1 0,0,0) xs=((scan (Ef.filt a b c d e).step w xs).1,(u,v,0,0)):=by
 obtain ⟨h1,h2⟩:=scan_sim (fstep (a,b,c,d,e) 1 true) (Ef.filt a b c d e).step (fun w=>(w.getD 0 0,w.getD 1 0,0,0)) (fun w=>w.length=2) (fun t x ht=>⟨by
  have z:fl? true 0=0:=by decide
  simp only[fstep,Ef.step,List.getD_cons_zero,List.getD_cons_succ,z,if_neg (show ¬ (1:Int)=0 by decide),if_pos],rfl⟩) xs w hl
 generalize (scan (Ef.filt a b c d e).step w xs)=r at h1 h2
 obtain ⟨ys,r⟩:=r
 match r,h2 with
 | [u,v],_=>exact ⟨u,v,rfl,h1⟩
theorem sim_squeeze (a r t q:Nat) (xs w:List Nat) (hl:w.length=1):∃ u,(scan (Ef.squeeze a r t q).step w xs).2=[u]∧scan (duckStep a r t q) (w.getD 0 0) (xs.zip xs)=((scan (Ef.squeeze a r t q).step w xs).1,u):=by
 rw[scan_twin]
 obtain ⟨h1,h2⟩:=scan_sim (fun s x=>duckStep a r t q s (x,x)) (Ef.squeeze a r t q).step (fun w=>w.getD 0 0) (fun w=>w.length=1) (fun t x ht=>⟨rfl,rfl⟩) xs w hl
 generalize (scan (Ef.squeeze a r t q).step w xs)=s at h1 h2
 obtain ⟨ys,s⟩:=s
 match s,h2 with
 | [u],_=>exact ⟨u,rfl,h1⟩
theorem sim_lim (A k r:Nat) (xs w:List Nat) (hl:w.length=A+1):∃ g v,(scan (Ef.lim A k r).step w xs).2=g::v∧scan (limStep k r) (w.getD 0 0,w.drop 1) xs=((scan (Ef.lim A k r).step w xs).1,(g,v)):=by
 obtain ⟨h1,h2⟩:=scan_sim (limStep k r) (Ef.lim A k r).step (fun w=>(w.getD 0 0,w.drop 1)) (fun w=>0<w.length) (fun t x ht=>⟨rfl,by simp[Ef.step]⟩) xs w (by omega)
 generalize (scan (Ef.lim A k r).step w xs)=s at h1 h2
 obtain ⟨ys,s⟩:=s
 match s,h2 with
 | g::v,_=>exact ⟨g,v,rfl,h1⟩
def chainGo:List Ef→List (List Nat)→List Nat→List Nat × List (List Nat)
 | e::es,w::ls,xs=>((chainGo es ls (scan e.step w xs).1).1,(scan e.step w xs).2::(chainGo es ls (scan e.step w xs).1).2)
 | _,_,xs=>(xs,[])
def Fits:List Ef→List (List Nat)→Prop
 | e::es,w::ls=>Fit e w∧Fits es ls
 | [],[]=>True
 | _,_=>False
theorem Fits.len:∀ {es:List Ef} {ls:List (List Nat)},Fits es ls→ls.length=es.length
 | [],[],_=>rfl
 | _::_,_::_,h=>by simp[h.2.len]
 | [],_::_,h=>h.elim
 | _::_,[],h=>h.elim
theorem Fits.at:∀ {es:List Ef} {ls:List (List Nat)},Fits es ls→∀ i,i<es.length→Fit (efAt es i) (row ls i)
 | [],[],_,i,hi=>by simp at hi
 | _::_,_::_,h,0,_=>h.1
 | _::_,_::_,h,i+1,hi=>h.2.at i (by simpa using hi)
 | [],_::_,h,_,_=>h.elim
 | _::_,[],h,_,_=>h.elim
theorem Sok.fits:∀ {es:List Ef} {ls:List (List Nat)},Sok es ls→Fits es ls
 | [],[],_=>trivial
 | e::es,w::ls,h=>⟨h.2 0 (by simp),Sok.fits ⟨by have:=h.1;simpa using this,fun i hi=>h.2 (i+1) (by simpa using hi)⟩⟩
 | [],_::_,h=>by have:=h.1;simp at this
 | _::_,[],h=>by have:=h.1;simp at this
theorem chain_fit:∀ (es:List Ef) (ls:List (List Nat)) (xs:List Nat),(∀ e∈es,e.Ok)→Fits es ls→AllW xs→AllW (chainGo es ls xs).1∧Fits es (chainGo es ls xs).2∧(chainGo es ls xs).1.length=xs.length
 | [],[],xs,_,_,hx=>⟨hx,trivial,rfl⟩
 | e::es,w::ls,xs,ho,h,hx=>by
   obtain ⟨a,b⟩:=run_fit (ho e (by simp)) xs h.1 hx
   obtain ⟨c,d,f⟩:=chain_fit es ls _ (fun e he=>ho e (by simp[he])) h.2 a
   exact ⟨c,⟨b,d⟩,f.trans (scan_length _ _ _)⟩
 | [],_::_,_,_,h,_=>h.elim
 | _::_,[],_,_,h,_=>h.elim
theorem chain_append:∀ (es:List Ef) (ls:List (List Nat)) (xs ys:List Nat),Fits es ls→chainGo es ls (xs++ys)=((chainGo es ls xs).1++(chainGo es (chainGo es ls xs).2 ys).1,(chainGo es (chainGo es ls xs).2 ys).2)
 | [],[],xs,ys,_=>rfl
 | e::es,w::ls,xs,ys,h=>by
   simp only[chainGo,scan_append]
   rw[chain_append es ls _ _ h.2]
 | [],_::_,_,_,h=>h.elim
 | _::_,[],_,_,h=>h.elim
theorem drop_one {w:List Nat}:((fls .f32 w).drop 1).take (w.length - 1)=fls .f32 (w.drop 1):=by
 rw[fls_drop,fls_take,List.take_of_length_le (by simp)]
theorem i_effectrun (n:Nat) {e:Ef} (he:e.Ok) {w xs:List Nat} (hf:Fit e w) (hx:AllW xs) (hl:xs.length≤256) (hn:600<n) :
  f100 (n+102) e.eff.kind e.eff.len e.eff.nums.length (fls .f32 e.eff.nums) w.length (fls .f32 w) xs.length (fls .f32 xs) =
   some ((scan e.step w xs).1.length,fls .f32 (scan e.step w xs).1,(scan e.step w xs).2.length,fls .f32 (scan e.step w xs).2):=by
 obtain ⟨hwl,hww⟩:=hf
 rw[f100]
 cases e with
 | scale g =>
   obtain rfl:w=[]:=List.length_eq_zero_iff.1 hwl
   have e1:=i_scaledq (n+100) xs g (by omega) (by omega)
   have e1:f131 (n+101) xs.length (fls .f32 xs) g=_:=e1
   have g1:decide ((0:Int)≤0∧(0:Int)<(([g].length:Nat):Int))=true:=rfl
   have g2:okAt [.flt .f32] (fls .f32 [g]) 0=true:=rfl
   have g3:fAt (fls .f32 [g]) 0=g:=rfl
   have hs:scan (Ef.scale g).step [] xs=(xs.map fun z=>fmul .f32 z g,[]):=scan_pure (fun z=>fmul .f32 z g) xs
   simp only[Ef.eff,beq_self_eq_true,br_t,g1,g2,g3,Bool.and_self,gd_t,e1,bd_s,hs]
   rfl
 | filt a b c d f =>
   have hw2:w.length=2:=hwl
   obtain ⟨u,v,hs2,hs⟩:=sim_filt a b c d f xs w hw2
   have e1:=i_frun (n+96) (a,b,c,d,f) 1 true (w.getD 0 0,w.getD 1 0,0,0) xs hx ⟨w32_at hww 0,w32_at hww 1,w32_zero,w32_zero⟩ (by omega) (by omega)
   rw[hs] at e1
   have e1:f132 (n+101) a b c d f 1 true (w.getD 0 0) (w.getD 1 0) 0 0 xs.length (fls .f32 xs)=_:=e1
   have g (i:Nat) (hi:i<5):okAt [.flt .f32] (fls .f32 [a,b,c,d,f]) i=true:=okAt_fls (by simpa using hi)
   have k0:fAt (fls .f32 [a,b,c,d,f]) 0=a:=rfl
   have k1:fAt (fls .f32 [a,b,c,d,f]) 1=b:=rfl
   have k2:fAt (fls .f32 [a,b,c,d,f]) 2=c:=rfl
   have k3:fAt (fls .f32 [a,b,c,d,f]) 3=d:=rfl
   have k4:fAt (fls .f32 [a,b,c,d,f]) 4=f:=rfl
   have d0:decide ((0:Int)≤0∧(0:Int)<(([a,b,c,d,f].length:Nat):Int))=true:=rfl
   have d1:decide ((0:Int)≤1∧(1:Int)<(([a,b,c,d,f].length:Nat):Int))=true:=rfl
   have d2:decide ((0:Int)≤2∧(2:Int)<(([a,b,c,d,f].length:Nat):Int))=true:=rfl
   have d3:decide ((0:Int)≤3∧(3:Int)<(([a,b,c,d,f].length:Nat):Int))=true:=rfl
   have d4:decide ((0:Int)≤4∧(4:Int)<(([a,b,c,d,f].length:Nat):Int))=true:=rfl
   have w0:okAt [.flt .f32] (fls .f32 w) 0=true:=okAt_fls (by omega)
   have w1:okAt [.flt .f32] (fls .f32 w) 1=true:=okAt_fls (by omega)
   have q0:decide ((0:Int)≤0∧(0:Int)<(w.length:Int))=true:=decide_eq_true (by omega)
   have q1:decide ((0:Int)≤1∧(1:Int)<(w.length:Int))=true:=decide_eq_true (by omega)
   simp only[Ef.eff,show ((1:Int)==0)=false from rfl,beq_self_eq_true,br_t,br_f,g 0 (by decide),g 1 (by decide),g 2 (by decide),g 3 (by decide),g 4 (by decide),k0,k1,k2,k3,k4,d0,d1,d2,d3,d4,w0,w1,q0,q1,fAt_fls,Bool.and_self,gd_t,e1,bd_s,hs2]
   rfl
 | echo L p q =>
   have hL:1≤L∧L≤32:=he
   have hwL:w.length=L:=hwl
   have e0:=i_copy (n+100) w (by omega)
   have e0:f34 (n+101) w.length (fls .f32 w)=_:=e0
   have e1:=i_echo_loop (n+98) xs.length (fls .f32 xs) p q xs [] [] w (n+101) (by omega) (by omega) (by simp;omega) (by simp;omega) (by omega)
   have e1:f100.l0 (n+101) (n+101) xs.length (fls .f32 xs) [p,q].length (fls .f32 [p,q]) w.length (fls .f32 w) 0 [] xs.length (fls .f32 xs) (xs.length:Int) 0=_:=e1
   simp only[Ef.eff,show ((2:Int)==0)=false from rfl,show ((2:Int)==1)=false from rfl,beq_self_eq_true,br_t,br_f,e0,bd_s,e1]
   rfl
 | squeeze a r t q =>
   have hw1:w.length=1:=hwl
   obtain ⟨u,hs2,hs⟩:=sim_squeeze a r t q xs w hw1
   have e1:=i_runsqueeze (n+96) a r (w.getD 0 0) t q xs hx hl (by omega)
   rw[hs] at e1
   have e1:f135 (n+101) a r (w.getD 0 0) t q xs.length (fls .f32 xs)=_:=e1
   have g (i:Nat) (hi:i<4):okAt [.flt .f32] (fls .f32 [a,r,t,q]) i=true:=okAt_fls (by simpa using hi)
   have k0:fAt (fls .f32 [a,r,t,q]) 0=a:=rfl
   have k1:fAt (fls .f32 [a,r,t,q]) 1=r:=rfl
   have k2:fAt (fls .f32 [a,r,t,q]) 2=t:=rfl
   have k3:fAt (fls .f32 [a,r,t,q]) 3=q:=rfl
   have d0:decide ((0:Int)≤0∧(0:Int)<(([a,r,t,q].length:Nat):Int))=true:=rfl
   have d1:decide ((0:Int)≤1∧(1:Int)<(([a,r,t,q].length:Nat):Int))=true:=rfl
   have d2:decide ((0:Int)≤2∧(2:Int)<(([a,r,t,q].length:Nat):Int))=true:=rfl
   have d3:decide ((0:Int)≤3∧(3:Int)<(([a,r,t,q].length:Nat):Int))=true:=rfl
   have w0:okAt [.flt .f32] (fls .f32 w) 0=true:=okAt_fls (by omega)
   have q0:decide ((0:Int)≤0∧(0:Int)<(w.length:Int))=true:=decide_eq_true (by omega)
   simp only[Ef.eff,show ((3:Int)==0)=false from rfl,show ((3:Int)==1)=false from rfl,show ((3:Int)==2)=false from rfl,beq_self_eq_true,br_t,br_f,g 0 (by decide),g 1 (by decide),g 2 (by decide),g 3 (by decide),k0,k1,k2,k3,d0,d1,d2,d3,w0,q0,Bool.and_self,gd_t]
   rw[fAt_fls]
   simp only[e1,bd_s,hs2]
   rfl
 | clip g =>
   obtain rfl:w=[]:=List.length_eq_zero_iff.1 hwl
   have e1:=i_clips (n+97) g xs hx hl (by omega)
   have e1:f136 (n+101) xs.length (fls .f32 xs) g=_:=e1
   have g1:decide ((0:Int)≤0∧(0:Int)<(([g].length:Nat):Int))=true:=rfl
   have g2:okAt [.flt .f32] (fls .f32 [g]) 0=true:=rfl
   have g3:fAt (fls .f32 [g]) 0=g:=rfl
   have hs:scan (Ef.clip g).step [] xs=(xs.map (clipM g),[]):=scan_pure (clipM g) xs
   simp only[Ef.eff,show ((4:Int)==0)=false from rfl,show ((4:Int)==1)=false from rfl,show ((4:Int)==2)=false from rfl,show ((4:Int)==3)=false from rfl,beq_self_eq_true,br_t,br_f,g1,g2,g3,Bool.and_self,gd_t,e1,bd_s,hs,List.length_map]
   rfl
 | bend =>
   obtain rfl:w=[]:=List.length_eq_zero_iff.1 hwl
   have e1:=i_bends_loop (n+100) xs.length (fls .f32 xs) xs [] [] (n+101) (by simp;omega) (by simp;omega) (by omega)
   have e1:f100.l1 (n+101) (n+101) xs.length (fls .f32 xs) 0 [] xs.length (fls .f32 xs) (xs.length:Int) 0=_:=e1
   have hs:scan Ef.bend.step [] xs=(xs.map bendM,[]):=scan_pure bendM xs
   simp only[Ef.eff,show ((5:Int)==0)=false from rfl,show ((5:Int)==1)=false from rfl,show ((5:Int)==2)=false from rfl,show ((5:Int)==3)=false from rfl,show ((5:Int)==4)=false from rfl,beq_self_eq_true,br_t,br_f,e1,bd_s,hs]
   rfl
 | lim A k r =>
   have hA:A≤32∧W32 k∧(fin32 k&&fgt .f32 k 0)=true:=he
   have hwA:w.length=A+1:=hwl
   obtain ⟨gg,v,hs2,hs⟩:=sim_lim A k r xs w hwA
   have hk:=hA.2.2
   have e1:=i_runlimiter n k r (w.getD 0 0) (w.drop 1) xs hA.2.1 hk (w32_at hww 0) (fun y hy=>hww y (List.mem_of_mem_drop hy)) (by simp;omega) hx hl (by omega)
   rw[hs,List.length_drop] at e1
   have hfit:=run_fit (e:=.lim A k r) he xs ⟨hwl,hww⟩ hx
   have hv:v.length=A:=by
    have h1:(scan (Ef.lim A k r).step w xs).2.length=A+1:=hfit.2.1
    rw[hs2] at h1
    simpa using h1
   have g1:decide ((0:Int)≤0∧(0:Int)<(([k,r].length:Nat):Int))=true:=rfl
   have g2:okAt [.flt .f32] (fls .f32 [k,r]) 0=true:=rfl
   have g3:fAt (fls .f32 [k,r]) 0=k:=rfl
   have g4:decide ((0:Int)≤1∧(1:Int)<(([k,r].length:Nat):Int))=true:=rfl
   have g5:okAt [.flt .f32] (fls .f32 [k,r]) 1=true:=rfl
   have g6:fAt (fls .f32 [k,r]) 1=r:=rfl
   have w0:okAt [.flt .f32] (fls .f32 w) 0=true:=okAt_fls (by omega)
   have q0:decide ((0:Int)≤0∧(0:Int)<(w.length:Int))=true:=decide_eq_true (by omega)
   have q1:decide ((0:Int)≤1∧(1:Int)≤(w.length:Int)∧(w.length:Int)≤(w.length:Int))=true:=decide_eq_true (by omega)
   have b1:Nat.ble (1+v.length) 2147483648=true:=by rw[Nat.ble_eq];omega
   simp only[Ef.eff,show ((6:Int)==0)=false from rfl,show ((6:Int)==1)=false from rfl,show ((6:Int)==2)=false from rfl,show ((6:Int)==3)=false from rfl,show ((6:Int)==4)=false from rfl,show ((6:Int)==5)=false from rfl,br_f,g1,g2,g3,g4,g5,g6,w0,q0,q1,Bool.and_self,gd_t,drop_one]
   rw[fAt_fls]
   simp only[e1,bd_s,b1,gd_t,hs2]
   rw[Nat.add_comm 1 v.length]
   rfl
theorem i_chain_loop (n:Nat) (hn:600<n) (N N2:Nat) (cs:List T) (es:List Ef) (hle:es.length≤100) (ho:∀ e∈es,e.Ok) (ls:List (List Nat)) (hf:Fits es ls):∀ (j i m:Nat) (P:List (List Nat)) (xs:List Nat),i+j=es.length→P.length≤i→AllW xs→xs.length≤256→j<m →
  f67.l0 (n+102) m N cs ls.length (ls.map rwF) xs.length (fls .f32 xs) P.length (P.map rwF) es.length (effs (effL es)) (es.length:Int) (i:Int) =
   some ((chainGo (es.drop i) (ls.drop i) xs).1.length,fls .f32 (chainGo (es.drop i) (ls.drop i) xs).1,(P++(chainGo (es.drop i) (ls.drop i) xs).2).length,(P++(chainGo (es.drop i) (ls.drop i) xs).2).map rwF):=by
 have hlen:=hf.len
 intro j
 induction j with
 | zero =>
   intro i m P xs hi hP hx hl hm
   obtain ⟨m,rfl⟩:∃ k,m=k+1:=⟨m - 1,by omega⟩
   rw[f67.l0,nlt_dec (by omega),List.drop_eq_nil_of_le (show es.length≤i by omega),List.drop_eq_nil_of_le (show ls.length≤i by omega)]
   simp only[br_f,chainGo,List.append_nil]
 | succ j ih =>
   intro i m P xs hi hP hx hl hm
   obtain ⟨m,rfl⟩:∃ k,m=k+1:=⟨m - 1,by omega⟩
   have h:i<es.length:=by omega
   have he:i<(effL es).length:=by rw[effL_length];exact h
   have hil:i<ls.length:=by omega
   have hO:=ho _ (efAt_mem h)
   have hF:=hf.at i h
   have e1:=i_effectrun n hO hF hx hl hn
   obtain ⟨f1,f2⟩:=run_fit hO xs hF hx
   have l1:(scan (efAt es i).step (row ls i) xs).1.length=xs.length:=scan_length _ _ _
   have step:=ih (i+1) m (P++[(scan (efAt es i).step (row ls i) xs).2]) (scan (efAt es i).step (row ls i) xs).1 (by omega) (by simp;omega) f1 (by omega) (by omega)
   have hd:chainGo (es.drop i) (ls.drop i) xs=((chainGo (es.drop (i+1)) (ls.drop (i+1)) (scan (efAt es i).step (row ls i) xs).1).1,(scan (efAt es i).step (row ls i) xs).2::(chainGo (es.drop (i+1)) (ls.drop (i+1)) (scan (efAt es i).step (row ls i) xs).1).2):=by
    rw[ef_drop h,row_drop hil];rfl
   have hp:=push_rw P (scan (efAt es i).step (row ls i) xs).2
   rw[f67.l0,lt_dec h,in_dec h,in_dec hil,Int.toNat_natCast,okE he,okR hil]
   simp only[br_t,Bool.and_self,gd_t,kE he,gE he,nE he,lE he,effL_at h,nR hil,lR hil,e1,bd_s,push_ok (show P.length<2147483648 by omega),hp,wrap_succ (show i<9223372036854775807 by omega)]
   rw[push_len (z:=(scan (efAt es i).step (row ls i) xs).2),step,hd]
   simp
theorem i_runchain_ (n:Nat) (hn:600<n) (es:List Ef) (hle:es.length≤100) (ho:∀ e∈es,e.Ok) (ls:List (List Nat)) (hf:Fits es ls) (xs:List Nat) (hx:AllW xs) (hl:xs.length≤256) :
  f67 (n+103) es.length (effs (effL es)) ls.length (ls.map rwF) xs.length (fls .f32 xs) =
   some ((chainGo es ls xs).1.length,fls .f32 (chainGo es ls xs).1,(chainGo es ls xs).2.length,(chainGo es ls xs).2.map rwF):=by
 have e1:=i_chain_loop n hn es.length es.length (effs (effL es)) es hle ho ls hf es.length 0 (n+102) [] xs (by omega) (by simp) hx hl (by omega)
 have e1:f67.l0 (n+102) (n+102) es.length (effs (effL es)) ls.length (ls.map rwF) xs.length (fls .f32 xs) 0 [] es.length (effs (effL es)) (es.length:Int) 0=_:=e1
 have e0:=i_copy (n+101) xs (by omega)
 have e0:f34 (n+102) xs.length (fls .f32 xs)=_:=e0
 rw[f67,e0]
 simp only[bd_s,e1,List.drop_zero,List.nil_append]
theorem s_sizeW (n:Nat) {x:Nat} (hg:W32 x):f156 (n+3) x=some (size32 x):=by
 have hx:=hg.1
 rw[f156]
 cases hn:isNaN .f32 x
 ·obtain ⟨c1,c2,c3⟩:=neg_size hx hn
  cases hf:flt .f32 x 0
  ·have hb:f105 (n+2) x=some (x:Int):=by
    rw[f105,fne_nan,hn]
    show bd (if isNaN .f32 x then none else some (x:Int)) _=_
    rw[hn]
    show some (IntKind.i64.wrap (x:Int))=_
    rw[wrap64] <;>omega
   rw[hb]
   simp only[br,bd]
   by_cases h:x=2147483648
   ·subst h
    rw[c3];rfl
   ·rw[show (((x:Nat):Int)==2147483648)=false by simp;omega]
    rcases c2 hf with h' | h'
    ·exact absurd h' h
    ·simp only;rw[← h']
  ·simp only[br];rw[c1 hf]
 ·have hq:x=qnan .f32:=by rw[← hg.2,canon_nan hn]
  rw[flt_nan 0 hn,size_nan hn]
  have hb:f105 (n+2) x=some 2143289344:=by rw[f105,fne_nan,hn];rfl
  rw[hb,hq];rfl
theorem s_bits (n:Nat) {x:Nat} (h:W32 x):f105 (n+2) x=some (x:Int):=by
 rw[f105,fne_nan]
 cases hn:isNaN .f32 x
 ·have:xF32bits (n+1) x=some (x:Int):=by simp[xF32bits,hn]
  have hx:=h.1
  simp only[br_f,this,bd_s]
  rw[wrap64] <;>omega
 ·rw[br_t,← h.2,canon_nan hn];rfl
theorem s_flush (n:Nat) {x:Nat} (h:W32 x):f119 (n+3) x=some (flushM x):=by
 rw[f119,s_bits n h]
 simp only[bd_s,exp_zero x h.1,sign_bits x h.1]
 unfold flushM
 by_cases hx:x % 2147483648<8388608
 ·rw[decide_eq_true hx,if_pos hx,br_t,s_fromx n (by omega) (by have:=h.1;omega),Int.toNat_natCast]
  have:canon .f32 (x / 2147483648 * 2147483648)=x / 2147483648 * 2147483648:=canon_num (by rw[nan32];simp <;>omega)
  rw[this];rfl
 ·rw[decide_eq_false hx,if_neg hx];rfl
theorem reps0 (x:T) (l:List T):reps 0 [x]++l=l:=rfl
theorem s_scale_loop (n:Nat) (by_:Nat):∀ (zs p acc:List Nat) (m:Nat),acc.length+zs.length<1048576→p.length+zs.length<1048576→zs.length<m →
  f117.l0 n m (p++zs).length (fls .f32 (p++zs)) by_ acc.length (fls .f32 acc) (p.length:Int)=some ((acc++zs.map fun z=>fmul .f32 z by_).length,fls .f32 (acc++zs.map fun z=>fmul .f32 z by_)):=by
 intro zs
 induction zs with
 | nil =>
   intro p acc m _ _ hm
   obtain ⟨m,rfl⟩:∃ k,m=k+1:=⟨m - 1,by simp at hm;omega⟩
   rw[f117.l0,lt_end]
   simp[br_f]
 | cons z zs ih =>
   intro p acc m ha hp hm
   obtain ⟨m,rfl⟩:∃ k,m=k+1:=⟨m - 1,by simp at hm;omega⟩
   have ha':acc.length<1048576:=by simp at ha;omega
   rw[f117.l0,lt_mid,in_mid,toNat_len,okAt_mid,fAt_mid]
   have:=ih (p++[z]) (acc++[fmul .f32 z by_]) m (by simp at ha ⊢;omega) (by simp at hp ⊢;omega) (by simp at hm;omega)
   simp only[br_t,gd_t,Bool.and_self,push_fls,push_ok (show acc.length<2147483648 by omega),wrap_len (z:=z) (show p.length<4611686018427387904 by simp at hp;omega)]
   simpa using this
theorem s_scaleq (n:Nat) (xs:List Nat) (by_:Nat) (hx:xs.length<1048576) (hn:xs.length<n):f117 (n+1) xs.length (fls .f32 xs) by_=some ((xs.map fun z=>fmul .f32 z by_).length,fls .f32 (xs.map fun z=>fmul .f32 z by_)):=by
 have e:=s_scale_loop n by_ xs [] [] n (by simpa using hx) (by simpa using hx) (by omega)
 have e:f117.l0 n n xs.length (fls .f32 xs) by_ 0 (reps 0 [(T.flt .f32 0)]) 0=_:=e
 rw[f117,e];rfl
theorem s_flushq (n:Nat) {x:Nat} (b:Bool) (h:W32 x):f172 (n+4) x b=some (fl? b x):=by
 rw[f172]
 cases b
 ·rfl
 ·simp only[br_t,s_flush n h,bd_s];rfl
theorem s_fstep (n:Nat) (f:Filt) (form:Int) (b:Bool) (m:Mem) (x:Nat) (hm:WMem m) (hx:W32 x) :
  f152 (n+5) f.1 f.2.1 f.2.2.1 f.2.2.2.1 f.2.2.2.2 form b m.1 m.2.1 m.2.2.1 m.2.2.2 x =
   some ((fstep f form b m x).1,(fstep f form b m x).2.1,(fstep f form b m x).2.2.1,(fstep f form b m x).2.2.2.1,(fstep f form b m x).2.2.2.2):=by
 obtain ⟨m1,m2,m3,m4⟩:=hm
 rw[f152]
 unfold fstep
 by_cases h0:form=0
 ·simp only[h0,beq_self_eq_true,br_t,if_true,s_flushq n b (w32_fsub _ _),bd_s]
  cases b
  ·rfl
  ·simp only[br_t,s_flush (n+1) hx,s_flush (n+1) m1,s_flush (n+1) m3,s_flush (n+1) (w32_fl? (b:=true) (w32_fsub _ _)),bd_s];rfl
 ·have h0':(form==0)=false:=by simp[h0]
  simp only[h0',br_f,if_neg h0]
  by_cases h1:form=1
  ·simp only[h1,beq_self_eq_true,br_t,if_true,s_flushq n b (w32_fadd _ _),bd_s]
   cases b
   ·rfl
   ·simp only[br_t,s_flush (n+1) (w32_fadd _ _),s_flush (n+1) (w32_fsub _ _),s_flush (n+1) w32_zero,bd_s];rfl
  ·have h1':(form==1)=false:=by simp[h1]
   simp only[h1',br_f,if_neg h1,s_flushq n b (w32_fsub _ _),bd_s,s_flushq n b (w32_fadd _ _)]
   cases b
   ·rfl
   ·simp only[br_t,s_flush (n+1) (w32_fl? (b:=true) (w32_fsub _ _)),s_flush (n+1) m1,s_flush (n+1) w32_zero,bd_s];rfl
theorem s_frun_loop (n:Nat) (f:Filt) (form:Int) (b:Bool) (u:Mem):∀ (zs p acc:List Nat) (mm:Mem) (m:Nat),(∀ x∈zs,W32 x)→WMem mm→acc.length+zs.length<1048576→p.length+zs.length<1048576→zs.length<m →
  f118.l0 (n+5) m f.1 f.2.1 f.2.2.1 f.2.2.2.1 f.2.2.2.2 form b (p++zs).length (fls .f32 (p++zs)) mm.1 mm.2.1 mm.2.2.1 mm.2.2.2 u.1 u.2.1 u.2.2.1 u.2.2.2 acc.length (fls .f32 acc) (p.length:Int) =
   some ((scan (fstep f form b) mm zs).2.1,(scan (fstep f form b) mm zs).2.2.1,(scan (fstep f form b) mm zs).2.2.2.1,(scan (fstep f form b) mm zs).2.2.2.2,u.1,u.2.1,u.2.2.1,u.2.2.2,(acc++(scan (fstep f form b) mm zs).1).length,fls .f32 (acc++(scan (fstep f form b) mm zs).1)):=by
 intro zs
 induction zs with
 | nil =>
   intro p acc mm m _ _ _ _ hm
   obtain ⟨m,rfl⟩:∃ k,m=k+1:=⟨m - 1,by simp at hm;omega⟩
   rw[f118.l0,lt_end]
   simp[br_f,scan]
 | cons z zs ih =>
   intro p acc mm m hz hmm ha hp hm
   obtain ⟨m,rfl⟩:∃ k,m=k+1:=⟨m - 1,by simp at hm;omega⟩
   have ha':acc.length<1048576:=by simp at ha;omega
   have hw:=hz z (by simp)
   rw[f118.l0,lt_mid,in_mid,toNat_len,okAt_mid,fAt_mid]
   simp only[br_t,gd_t,Bool.and_self,s_fstep n f form b mm z hmm hw,bd_s,push_ok (show acc.length<2147483648 by omega),push_fls,wrap_len (z:=z) (show p.length<4611686018427387904 by simp at hp;omega)]
   have:=ih (p++[z]) (acc++[(fstep f form b mm z).1]) (fstep f form b mm z).2 m (fun x hx=>hz x (by simp[hx])) (fstep_w32 hmm hw).2 (by simp at ha ⊢;omega) (by simp at hp ⊢;omega) (by simp at hm;omega)
   simpa [scan] using this
theorem s_frun (n:Nat) (f:Filt) (form:Int) (b:Bool) (mm:Mem) (xs:List Nat) (hx:∀ x∈xs,W32 x) (hm:WMem mm) (hl:xs.length<1048576) (hn:xs.length<n) :
  f118 (n+6) f.1 f.2.1 f.2.2.1 f.2.2.2.1 f.2.2.2.2 form b mm.1 mm.2.1 mm.2.2.1 mm.2.2.2 xs.length (fls .f32 xs) =
   some ((scan (fstep f form b) mm xs).1.length,fls .f32 (scan (fstep f form b) mm xs).1,(scan (fstep f form b) mm xs).2.1,(scan (fstep f form b) mm xs).2.2.1,(scan (fstep f form b) mm xs).2.2.2.1,(scan (fstep f form b) mm xs).2.2.2.2):=by
 have e:=s_frun_loop n f form b (0,0,0,0) xs [] [] mm (n+5) hx hm (by simpa using hl) (by simpa using hl) (by omega)
 have e:f118.l0 (n+5) (n+5) f.1 f.2.1 f.2.2.1 f.2.2.2.1 f.2.2.2.2 form b xs.length (fls .f32 xs) mm.1 mm.2.1 mm.2.2.1 mm.2.2.2 0 0 0 0 0 (reps 0 [(T.flt .f32 0)]) 0=_:=e
 rw[f118,e];rfl
theorem s_fol (n:Nat) (a r q:Nat) {l x:Nat} (hx:W32 x):f153 (n+4) a r q l x=some (levelM a r l x):=by
 rw[f153,s_sizeW n hx]
 unfold levelM
 simp only[bd_s,s_flush n (w32_fadd _ _)]
 cases fgt .f32 (size32 x) l <;>rfl
theorem s_gain (n l t q:Nat):f154 (n+1) l t q=some (gainM l t q):=by
 rw[f154]
 unfold gainM
 cases fgt .f32 l t <;>rfl
theorem s_squeeze_loop (n:Nat) (a r t q u1 u2 u3 u4 u5:Nat):∀ (zs p acc:List Nat) (l m:Nat),(∀ x∈zs,W32 x)→acc.length+zs.length<1048576→p.length+zs.length<1048576→zs.length<m →
  f120.l0 (n+4) m (p++zs).length (fls .f32 (p++zs)) (p++zs).length (fls .f32 (p++zs)) a r l t q u1 u2 u3 u4 u5 acc.length (fls .f32 acc) (p.length:Int) =
   some (a,r,(scan (duckStep a r t q) l (zs.zip zs)).2,t,q,u1,u2,u3,u4,u5,(acc++(scan (duckStep a r t q) l (zs.zip zs)).1).length,fls .f32 (acc++(scan (duckStep a r t q) l (zs.zip zs)).1)):=by
 intro zs
 induction zs with
 | nil =>
   intro p acc l m _ _ _ hm
   obtain ⟨m,rfl⟩:∃ k,m=k+1:=⟨m - 1,by simp at hm;omega⟩
   rw[f120.l0,lt_end];simp[br_f,scan]
 | cons z zs ih =>
   intro p acc l m hz ha hp hm
   obtain ⟨m,rfl⟩:∃ k,m=k+1:=⟨m - 1,by simp at hm;omega⟩
   have ha':acc.length<1048576:=by simp at ha;omega
   rw[f120.l0,lt_mid,in_mid,toNat_len,okAt_mid,fAt_mid]
   simp only[br_t,gd_t,Bool.and_self,s_fol n a r l (hz z (by simp)),s_gain (n+3),bd_s,push_ok (show acc.length<2147483648 by omega),push_fls,wrap_len (z:=z) (show p.length<4611686018427387904 by simp at hp;omega)]
   have:=ih (p++[z]) (acc++[fmul .f32 z (gainM (levelM a r l z) t q)]) (levelM a r l z) m (fun x hx=>hz x (by simp[hx])) (by simp at ha ⊢;omega) (by simp at hp ⊢;omega) (by simp at hm;omega)
   simpa [scan,duckStep] using this
theorem s_squeezed (n:Nat) (a r l t q:Nat) (xs:List Nat) (hx:∀ x∈xs,W32 x) (hl:xs.length≤256) (hn:xs.length<n) :
  f120 (n+5) a r l t q xs.length (fls .f32 xs) xs.length (fls .f32 xs)=some ((scan (duckStep a r t q) l (xs.zip xs)).1.length,fls .f32 (scan (duckStep a r t q) l (xs.zip xs)).1,a,r,(scan (duckStep a r t q) l (xs.zip xs)).2,t,q):=by
 have e:=s_squeeze_loop n a r t q 0 0 0 0 0 xs [] [] l (n+4) hx (by simp;omega) (by simp;omega) (by omega)
 have e:f120.l0 (n+4) (n+4) xs.length (fls .f32 xs) xs.length (fls .f32 xs) a r l t q 0 0 0 0 0 0 (reps 0 [(T.flt .f32 0)]) 0=_:=e
 rw[f120,e];rfl
theorem s_clip (n:Nat) (lim:Nat) {x:Nat} (hx:W32 x):f155 (n+4) x lim=some (clipM lim x):=by
 rw[f155,s_sizeW n hx]
 simp only[bd_s]
 unfold clipM
 cases fgt .f32 (size32 x) lim <;>cases flt .f32 x 0 <;>rfl
theorem s_clips_loop (n:Nat) (lim:Nat):∀ (zs p acc:List Nat) (m:Nat),(∀ x∈zs,W32 x)→acc.length+zs.length<1048576→p.length+zs.length<1048576→zs.length<m →
  f121.l0 (n+4) m (p++zs).length (fls .f32 (p++zs)) lim acc.length (fls .f32 acc) (p.length:Int)=some ((acc++zs.map (clipM lim)).length,fls .f32 (acc++zs.map (clipM lim))):=by
 intro zs
 induction zs with
 | nil =>
   intro p acc m _ _ _ hm
   obtain ⟨m,rfl⟩:∃ k,m=k+1:=⟨m - 1,by simp at hm;omega⟩
   rw[f121.l0,lt_end];simp[br_f]
 | cons z zs ih =>
   intro p acc m hz ha hp hm
   obtain ⟨m,rfl⟩:∃ k,m=k+1:=⟨m - 1,by simp at hm;omega⟩
   have ha':acc.length<1048576:=by simp at ha;omega
   rw[f121.l0,lt_mid,in_mid,toNat_len,okAt_mid,fAt_mid]
   simp only[br_t,gd_t,Bool.and_self,s_clip n lim (hz z (by simp)),bd_s,push_ok (show acc.length<2147483648 by omega),push_fls,wrap_len (z:=z) (show p.length<4611686018427387904 by simp at hp;omega)]
   have:=ih (p++[z]) (acc++[clipM lim z]) m (fun x hx=>hz x (by simp[hx])) (by simp at ha ⊢;omega) (by simp at hp ⊢;omega) (by simp at hm;omega)
   simpa using this
theorem s_clips (n:Nat) (lim:Nat) (xs:List Nat) (hx:∀ x∈xs,W32 x) (hl:xs.length≤256) (hn:xs.length<n):f121 (n+5) xs.length (fls .f32 xs) lim=some (xs.length,fls .f32 (xs.map (clipM lim)),true):=by
 have e:=s_clips_loop n lim xs [] [] (n+4) hx (by simp;omega) (by simp;omega) (by omega)
 have e:f121.l0 (n+4) (n+4) xs.length (fls .f32 xs) lim 0 (reps 0 [(T.flt .f32 0)]) 0=_:=e
 rw[f121,s_few,decide_eq_true (show (xs.length:Int)≤256 by omega)]
 simp only[bd_s,br_not,br_t,e,List.nil_append,List.length_map]
theorem s_bend (n x:Nat):f122 (n+1) x=some (bendM x):=by
 rw[f122]
 unfold bendM
 cases fge .f32 x 1065353216
 ·cases fle .f32 x 3212836864 <;>rfl
 ·rfl
theorem s_bends_loop (n:Nat):∀ (zs p acc:List Nat) (m:Nat),acc.length+zs.length<1048576→p.length+zs.length<1048576→zs.length<m →
  f94.l1 (n+1) m (p++zs).length (fls .f32 (p++zs)) acc.length (fls .f32 acc) (p.length:Int)=some ((acc++zs.map bendM).length,fls .f32 (acc++zs.map bendM)):=by
 intro zs
 induction zs with
 | nil =>
   intro p acc m _ _ hm
   obtain ⟨m,rfl⟩:∃ k,m=k+1:=⟨m - 1,by simp at hm;omega⟩
   rw[f94.l1,lt_end];simp[br]
 | cons z zs ih =>
   intro p acc m ha hp hm
   obtain ⟨m,rfl⟩:∃ k,m=k+1:=⟨m - 1,by simp at hm;omega⟩
   have:=ih (p++[z]) (acc++[bendM z]) m (by simp at ha ⊢;omega) (by simp at hp ⊢;omega) (by simp at hm;omega)
   rw[f94.l1,lt_mid,in_mid,toNat_len,okAt_mid,fAt_mid,wrap_len (z:=z) (show p.length<4611686018427387904 by simp at hp;omega)]
   simp only[br_t,gd_t,Bool.and_self,s_bend,bd_s,push_ok (show acc.length<2147483648 by simp at ha;omega),push_fls]
   simpa using this
theorem s_echo_loop (n:Nat) (pp qq:Nat):∀ (zs p acc w:List Nat) (m:Nat),0<w.length→w.length≤64→acc.length+zs.length<1048576→p.length+zs.length<1048576→zs.length<m →
  f94.l0 (n+3) m (p++zs).length (fls .f32 (p++zs)) 2 (fls .f32 [pp,qq]) w.length (fls .f32 w) acc.length (fls .f32 acc) (p.length:Int) =
   some ((scan (echoStep pp qq) w zs).2.length,fls .f32 (scan (echoStep pp qq) w zs).2,(acc++(scan (echoStep pp qq) w zs).1).length,fls .f32 (acc++(scan (echoStep pp qq) w zs).1)):=by
 intro zs
 induction zs with
 | nil =>
   intro p acc w m _ _ _ _ hm
   obtain ⟨m,rfl⟩:∃ k,m=k+1:=⟨m - 1,by simp at hm;omega⟩
   rw[f94.l0,lt_end];simp[br,scan]
 | cons z zs ih =>
   intro p acc w m h0 h1 ha hp hm
   obtain ⟨m,rfl⟩:∃ k,m=k+1:=⟨m - 1,by simp at hm;omega⟩
   have hlen:(echoStep pp qq w z).2.length=w.length:=took_length h0
   have step:=ih (p++[z]) (acc++[(echoStep pp qq w z).1]) (echoStep pp qq w z).2 m (by omega) (by omega) (by simp at ha ⊢;omega) (by simp at hp ⊢;omega) (by simp at hm;omega)
   have g1:decide ((0:Int)≤0∧(0:Int)<(w.length:Int))=true:=decide_eq_true (by omega)
   have g2:okAt [.flt .f32] (fls .f32 w) 0=true:=okAt_fls h0
   have g3:fAt (fls .f32 w) 0=headM w:=fAt_fls ..
   have g4:decide ((0:Int)≤1∧(1:Int)<((2:Nat):Int))=true:=rfl
   have g5:decide ((0:Int)≤0∧(0:Int)<((2:Nat):Int))=true:=rfl
   have g6:okAt [.flt .f32] (fls .f32 [pp,qq]) 0=true:=rfl
   have g7:okAt [.flt .f32] (fls .f32 [pp,qq]) 1=true:=rfl
   have g8:fAt (fls .f32 [pp,qq]) 0=pp:=rfl
   have g9:fAt (fls .f32 [pp,qq]) 1=qq:=rfl
   have g10:decide ((0:Int)≤1∧(1:Int)≤(w.length:Int)∧(w.length:Int)≤(w.length:Int))=true:=decide_eq_true (by omega)
   have g11:Nat.ble (0+(w.length - 1)) 2147483648=true:=le_ble (by omega)
   have g12:Nat.ble (echoStep pp qq w z).2.length 2147483648=true:=le_ble (by omega)
   have tk:∀ y,(reps 0 [(T.flt .f32 0)]++((fls .f32 w).drop 1).take (w.length - 1))++setN (reps 1 [(T.flt .f32 0)]) 0 [T.flt .f32 y]=fls .f32 (tookM w y):=fun y=>by
    rw[drop_one]
    exact push_fls .f32 (w.drop 1) y
   have tl:0+(w.length - 1)+1=(echoStep pp qq w z).2.length:=by rw[hlen];omega
   rw[f94.l0,lt_mid,in_mid,toNat_len,okAt_mid,fAt_mid]
   have w' :=wrap_len (z:=z) (p:=p) (show p.length<4611686018427387904 by simp at hp;omega)
   simp only[br_t,gd_t,Bool.and_self,g1,g2,g3,g4,g5,g6,g7,g8,g9,g10,g11,g12,push_ok (show acc.length<2147483648 by simp at ha;omega),push_fls,s_flush n (w32_fadd _ _),bd_s,w',tl,tk]
   rw[push_len (z:=(echoStep pp qq w z).1)]
   rw[List.append_assoc,List.append_assoc] at step
   exact step
theorem s_limitB (n:Nat) (l:Nat):f147 (n+2) l=some (fin32 l&&fgt .f32 l 0):=by
 have e:f171 (n+1) l=some (fin32 l):=by rw[f171,sub_finite]
 rw[f147,e]
 cases fin32 l <;>rfl
theorem s_peak_loop (n:Nat) (N:Nat) (cs:List T) (x3 x4 x5:Nat) (n6:Nat) (l7:List T) (x8 x9 x10 n11:Nat) (l12:List T) (n15:Nat) (l16:List T) (i17:Int):∀ (zs p:List Nat) (x m:Nat),(∀ y∈zs,W32 y)→p.length+zs.length<1048576→zs.length<m →
  f123.l1 (n+3) m N cs x3 x4 x5 n6 l7 x8 x9 x10 n11 l12 (p++zs).length (fls .f32 (p++zs)) n15 l16 i17 x (p.length:Int) =
   some (N,cs,x3,x4,x5,n6,l7,x8,x9,x10,n11,l12,(p++zs).length,fls .f32 (p++zs),n15,l16,i17,peakM x zs):=by
 intro zs
 induction zs with
 | nil =>
   intro p x m _ _ hm
   obtain ⟨m,rfl⟩:∃ k,m=k+1:=⟨m - 1,by simp at hm;omega⟩
   rw[f123.l1,lt_end];simp[br,peakM]
 | cons z zs ih =>
   intro p x m hz hp hm
   obtain ⟨m,rfl⟩:∃ k,m=k+1:=⟨m - 1,by simp at hm;omega⟩
   have hs:=s_sizeW n (hz z (by simp))
   have w' :=wrap_len (z:=z) (p:=p) (show p.length<4611686018427387904 by simp at hp;omega)
   rw[f123.l1,lt_mid,in_mid,toNat_len,okAt_mid,fAt_mid]
   simp only[br_t,gd_t,Bool.and_self,hs,bd_s,w']
   have e:peakM x (z::zs)=peakM (if fgt .f32 (size32 z) x then size32 z else x) zs:=rfl
   rw[e]
   cases fgt .f32 (size32 z) x
   ·have:=ih (p++[z]) x m (fun y hy=>hz y (by simp[hy])) (by simp at hp ⊢;omega) (by simp at hm;omega)
    rw[br_f];simpa using this
   ·have:=ih (p++[z]) (size32 z) m (fun y hy=>hz y (by simp[hy])) (by simp at hp ⊢;omega) (by simp at hm;omega)
    rw[br_t];simpa using this
theorem s_lim_loop (n:Nat) (lim rise n6:Nat) (l7:List T) (x8 x9 x10 n11:Nat) (l12:List T) (hl:W32 lim):∀ (zs p acc:List Nat) (s:Nat × List Nat) (m:Nat),(∀ x∈zs,W32 x)→(W32 s.1∧AllW s.2)→s.2.length≤64→acc.length+zs.length<1048576→p.length+zs.length<1048576→zs.length<m →
  f123.l0 (n+100) m (p++zs).length (fls .f32 (p++zs)) lim rise s.1 n6 l7 x8 x9 x10 n11 l12 s.2.length (fls .f32 s.2) acc.length (fls .f32 acc) (p.length:Int) =
   some (lim,rise,(scan (limStep lim rise) s zs).2.1,n6,l7,x8,x9,x10,n11,l12,(scan (limStep lim rise) s zs).2.2.length,fls .f32 (scan (limStep lim rise) s zs).2.2,(acc++(scan (limStep lim rise) s zs).1).length,fls .f32 (acc++(scan (limStep lim rise) s zs).1)):=by
 intro zs
 induction zs with
 | nil =>
   intro p acc s m _ _ _ _ _ hm
   obtain ⟨m,rfl⟩:∃ k,m=k+1:=⟨m - 1,by simp at hm;omega⟩
   rw[f123.l0,lt_end]
   simp[br_f,scan]
 | cons z zs ih =>
   intro p acc s m hz hs hw ha hp hm
   obtain ⟨m,rfl⟩:∃ k,m=k+1:=⟨m - 1,by simp at hm;omega⟩
   have hp':p.length<1048576:=by simp at hp;omega
   have ha':acc.length<1048576:=by simp at ha;omega
   have hall:AllW (s.2++[z]):=fun y hy=>by
    simp only[List.mem_append,List.mem_singleton] at hy
    rcases hy with h | rfl
    ·exact hs.2 y h
    ·exact hz _ (by simp)
   have hpk:=s_peak_loop (n+97) (p++z::zs).length (fls .f32 (p++z::zs)) lim rise s.1 n6 l7 x8 x9 x10 n11 l12 acc.length (fls .f32 acc) (p.length:Int) (s.2++[z]) [] 0 (n+100) hall (by simp;omega) (by simp;omega)
   have hpk:f123.l1 (n+100) (n+100) (p++z::zs).length (fls .f32 (p++z::zs)) lim rise s.1 n6 l7 x8 x9 x10 n11 l12 (s.2++[z]).length (fls .f32 (s.2++[z])) acc.length (fls .f32 acc) (p.length:Int) 0 0=some ((p++z::zs).length,fls .f32 (p++z::zs),lim,rise,s.1,n6,l7,x8,x9,x10,n11,l12,(s.2++[z]).length,fls .f32 (s.2++[z]),acc.length,fls .f32 acc,(p.length:Int),peakM 0 (s.2++[z])):=hpk
   have hlen:s.2.length+1=(s.2++[z]).length:=by simp
   have c0:Nat.ble (s.2++[z]).length 2147483648=true:=le_ble (by simp;omega)
   have c1:decide ((0:Int)≤1∧(1:Int)≤((s.2++[z]).length:Int)∧((s.2++[z]).length:Int)≤((s.2++[z]).length:Int))=true:=decide_eq_true (by simp;omega)
   have c2:reps 0 [(T.flt .f32 0)]++((fls .f32 (s.2++[z])).drop 1).take ((s.2++[z]).length - 1)=fls .f32 ((s.2++[z]).drop 1):=by
    rw[fls_drop,fls_take,List.take_of_length_le (by simp)];rfl
   have c3:decide ((0:Int)≤0∧(0:Int)<((s.2++[z]).length:Int))=true:=decide_eq_true (by simp)
   have c4:okAt [.flt .f32] (fls .f32 (s.2++[z])) 0=true:=okAt_fls (by simp)
   have c5:0+((s.2++[z]).length - 1)=((s.2++[z]).drop 1).length:=by simp
   have c6:Nat.ble ((s.2++[z]).drop 1).length 2147483648=true:=le_ble (by simp;omega)
   have ih' :=ih (p++[z]) (acc++[(limStep lim rise s z).1]) (limStep lim rise s z).2 m (fun x hx=>hz x (by simp[hx]))
    ⟨w32_limG w32_limT (w32_fadd _ _),fun y hy=>hall y (List.mem_of_mem_drop hy)⟩ (by simp[limStep];omega) (by simp at ha ⊢;omega) (by simp at hp ⊢;omega) (by simp at hm;omega)
   rw[show p++[z]++zs=p++z::zs by simp] at ih'
   rw[f123.l0,lt_mid,in_mid,toNat_len,okAt_mid,fAt_mid]
   simp only[br_t,gd_t,Bool.and_self,bd_s,push_fls,hlen,c0,hpk,c1,c2,c3,c4,fAt_fls,c5,c6,s_clip (n+96) lim (w32_fmul _ _),push_ok (show acc.length<2147483648 by omega),wrap_len (z:=z) (show p.length<4611686018427387904 by omega)]
   have e1:scan (limStep lim rise) s (z::zs)=((limStep lim rise s z).1::(scan (limStep lim rise) (limStep lim rise s z).2 zs).1,(scan (limStep lim rise) (limStep lim rise s z).2 zs).2):=rfl
   rw[e1]
   have e2:∀ t gn,limT lim (peakM 0 (s.2++[z]))=t→fadd .f32 s.1 rise=gn→∀ g,limG t gn=g→limStep lim rise s z=(clipM lim (fmul .f32 ((s.2++[z]).getD 0 0) g),(g,(s.2++[z]).drop 1)):=by
    rintro t gn rfl rfl g rfl
    rfl
   have e3:acc++(limStep lim rise s z).1::(scan (limStep lim rise) (limStep lim rise s z).2 zs).1=(acc++[(limStep lim rise s z).1])++(scan (limStep lim rise) (limStep lim rise s z).2 zs).1:=by simp
   have e4:(acc++[(limStep lim rise s z).1]).length=acc.length+1:=by simp
   simp only[e3]
   rw[e4] at ih'
   cases hc:fgt .f32 (peakM 0 (s.2++[z])) lim
   ·have ht:limT lim (peakM 0 (s.2++[z]))=1065353216:=by unfold limT;simp[hc]
    cases h1:flt .f32 1065353216 (fadd .f32 s.1 rise)
    ·cases h2:fne .f32 (fadd .f32 s.1 rise) (fadd .f32 s.1 rise)
     ·have e:=e2 _ _ ht rfl (fadd .f32 s.1 rise) (by unfold limG;simp[h1,h2])
      rw[e] at ih' ⊢
      exact ih'
     ·have e:=e2 _ _ ht rfl 1065353216 (by unfold limG;simp[h1,h2])
      rw[e] at ih' ⊢
      exact ih'
    ·have e:=e2 _ _ ht rfl 1065353216 (by unfold limG;simp[h1])
     rw[e] at ih' ⊢
     exact ih'
   ·have ht:limT lim (peakM 0 (s.2++[z]))=fdiv .f32 lim (peakM 0 (s.2++[z])):=by unfold limT;simp[hc]
    cases h1:flt .f32 (fdiv .f32 lim (peakM 0 (s.2++[z]))) (fadd .f32 s.1 rise)
    ·cases h2:fne .f32 (fadd .f32 s.1 rise) (fadd .f32 s.1 rise)
     ·have e:=e2 _ _ ht rfl (fadd .f32 s.1 rise) (by unfold limG;simp[h1,h2])
      rw[e] at ih' ⊢
      exact ih'
     ·have e:=e2 _ _ ht rfl (fdiv .f32 lim (peakM 0 (s.2++[z]))) (by unfold limG;simp[h1,h2])
      rw[e] at ih' ⊢
      exact ih'
    ·have e:=e2 _ _ ht rfl (fdiv .f32 lim (peakM 0 (s.2++[z]))) (by unfold limG;simp[h1])
     rw[e] at ih' ⊢
     exact ih'
theorem s_runlimiter (n:Nat) (lim rise g:Nat) (w xs:List Nat) (hl:W32 lim) (hlim:(fin32 lim&&fgt .f32 lim 0)=true) (hg:W32 g) (hw:AllW w) (hwl:w.length≤64) (hx:∀ x∈xs,W32 x) (hxl:xs.length≤256) (hn:300<n) :
  f123 (n+101) lim rise g w.length (fls .f32 w) xs.length (fls .f32 xs) =
   some ((scan (limStep lim rise) (g,w) xs).1.length,fls .f32 (scan (limStep lim rise) (g,w) xs).1,lim,rise,(scan (limStep lim rise) (g,w) xs).2.1,(scan (limStep lim rise) (g,w) xs).2.2.length,fls .f32 (scan (limStep lim rise) (g,w) xs).2.2,true):=by
 have e:=s_lim_loop n lim rise w.length (fls .f32 w) 0 0 0 0 [] hl xs [] [] (g,w) (n+100) hx ⟨hg,hw⟩ hwl (by simp;omega) (by simp;omega) (by omega)
 have e:f123.l0 (n+100) (n+100) xs.length (fls .f32 xs) lim rise g w.length (fls .f32 w) 0 0 0 0 [] w.length (fls .f32 w) 0 (reps 0 [(T.flt .f32 0)]) 0=_:=e
 rw[f123,s_limitB,hlim,s_few,decide_eq_false (show ¬ (w.length:Int)>64 by omega),decide_eq_true (show (xs.length:Int)≤256 by omega),le_ble (show 0+w.length≤2147483648 by omega)]
 simp only[bd_s,br_not,br_t,br_f,gd_t,Nat.zero_add,reps0,e,List.nil_append]
theorem s_effects (n:Nat) {e:Ef} (he:e.Ok) {w xs:List Nat} (hf:Fit e w) (hx:AllW xs) (hl:xs.length≤256) (hn:600<n) :
  f94 (n+102) e.eff.kind e.eff.len e.eff.nums.length (fls .f32 e.eff.nums) w.length (fls .f32 w) xs.length (fls .f32 xs) =
   some ((scan e.step w xs).1.length,fls .f32 (scan e.step w xs).1,(scan e.step w xs).2.length,fls .f32 (scan e.step w xs).2):=by
 obtain ⟨hwl,hww⟩:=hf
 rw[f94]
 cases e with
 | scale g =>
   obtain rfl:w=[]:=List.length_eq_zero_iff.1 hwl
   have e1:=s_scaleq (n+100) xs g (by omega) (by omega)
   have e1:f117 (n+101) xs.length (fls .f32 xs) g=_:=e1
   have g1:decide ((0:Int)≤0∧(0:Int)<(([g].length:Nat):Int))=true:=rfl
   have g2:okAt [.flt .f32] (fls .f32 [g]) 0=true:=rfl
   have g3:fAt (fls .f32 [g]) 0=g:=rfl
   have hs:scan (Ef.scale g).step [] xs=(xs.map fun z=>fmul .f32 z g,[]):=scan_pure (fun z=>fmul .f32 z g) xs
   simp only[Ef.eff,beq_self_eq_true,br_t,g1,g2,g3,Bool.and_self,gd_t,e1,bd_s,hs]
   rfl
 | filt a b c d f =>
   have hw2:w.length=2:=hwl
   obtain ⟨u,v,hs2,hs⟩:=sim_filt a b c d f xs w hw2
   have e1:=s_frun (n+95) (a,b,c,d,f) 1 true (w.getD 0 0,w.getD 1 0,0,0) xs hx ⟨w32_at hww 0,w32_at hww 1,w32_zero,w32_zero⟩ (by omega) (by omega)
   rw[hs] at e1
   have e1:f118 (n+101) a b c d f 1 true (w.getD 0 0) (w.getD 1 0) 0 0 xs.length (fls .f32 xs)=_:=e1
   have g (i:Nat) (hi:i<5):okAt [.flt .f32] (fls .f32 [a,b,c,d,f]) i=true:=okAt_fls (by simpa using hi)
   have k0:fAt (fls .f32 [a,b,c,d,f]) 0=a:=rfl
   have k1:fAt (fls .f32 [a,b,c,d,f]) 1=b:=rfl
   have k2:fAt (fls .f32 [a,b,c,d,f]) 2=c:=rfl
   have k3:fAt (fls .f32 [a,b,c,d,f]) 3=d:=rfl
   have k4:fAt (fls .f32 [a,b,c,d,f]) 4=f:=rfl
   have d0:decide ((0:Int)≤0∧(0:Int)<(([a,b,c,d,f].length:Nat):Int))=true:=rfl
   have d1:decide ((0:Int)≤1∧(1:Int)<(([a,b,c,d,f].length:Nat):Int))=true:=rfl
   have d2:decide ((0:Int)≤2∧(2:Int)<(([a,b,c,d,f].length:Nat):Int))=true:=rfl
   have d3:decide ((0:Int)≤3∧(3:Int)<(([a,b,c,d,f].length:Nat):Int))=true:=rfl
   have d4:decide ((0:Int)≤4∧(4:Int)<(([a,b,c,d,f].length:Nat):Int))=true:=rfl
   have w0:okAt [.flt .f32] (fls .f32 w) 0=true:=okAt_fls (by omega)
   have w1:okAt [.flt .f32] (fls .f32 w) 1=true:=okAt_fls (by omega)
   have q0:decide ((0:Int)≤0∧(0:Int)<(w.length:Int))=true:=decide_eq_true (by omega)
   have q1:decide ((0:Int)≤1∧(1:Int)<(w.length:Int))=true:=decide_eq_true (by omega)
   simp only[Ef.eff,show ((1:Int)==0)=false from rfl,beq_self_eq_true,br_t,br_f,g 0 (by decide),g 1 (by decide),g 2 (by decide),g 3 (by decide),g 4 (by decide),k0,k1,k2,k3,k4,d0,d1,d2,d3,d4,w0,w1,q0,q1,fAt_fls,Bool.and_self,gd_t,e1,bd_s,hs2]
   rfl
 | echo L p q =>
   have hL:1≤L∧L≤32:=he
   have hwL:w.length=L:=hwl
   have e1:=s_echo_loop (n+98) p q xs [] [] w (n+101) (by omega) (by omega) (by simp;omega) (by simp;omega) (by omega)
   have e1:f94.l0 (n+101) (n+101) xs.length (fls .f32 xs) [p,q].length (fls .f32 [p,q]) w.length (fls .f32 w) 0 (reps 0 [(T.flt .f32 0)]) 0=_:=e1
   simp only[Ef.eff,show ((2:Int)==0)=false from rfl,show ((2:Int)==1)=false from rfl,beq_self_eq_true,br_t,br_f,le_ble (show 0+w.length≤2147483648 by omega),gd_t,bd_s,Nat.zero_add,reps0,le_ble (show w.length≤2147483648 by omega)]
   rw[e1]
   simp only[bd_s,List.nil_append]
   rfl
 | squeeze a r t q =>
   have hw1:w.length=1:=hwl
   obtain ⟨u,hs2,hs⟩:=sim_squeeze a r t q xs w hw1
   have e1:=s_squeezed (n+96) a r (w.getD 0 0) t q xs hx hl (by omega)
   rw[hs] at e1
   have e1:f120 (n+101) a r (w.getD 0 0) t q xs.length (fls .f32 xs) xs.length (fls .f32 xs)=_:=e1
   have g (i:Nat) (hi:i<4):okAt [.flt .f32] (fls .f32 [a,r,t,q]) i=true:=okAt_fls (by simpa using hi)
   have k0:fAt (fls .f32 [a,r,t,q]) 0=a:=rfl
   have k1:fAt (fls .f32 [a,r,t,q]) 1=r:=rfl
   have k2:fAt (fls .f32 [a,r,t,q]) 2=t:=rfl
   have k3:fAt (fls .f32 [a,r,t,q]) 3=q:=rfl
   have d0:decide ((0:Int)≤0∧(0:Int)<(([a,r,t,q].length:Nat):Int))=true:=rfl
   have d1:decide ((0:Int)≤1∧(1:Int)<(([a,r,t,q].length:Nat):Int))=true:=rfl
   have d2:decide ((0:Int)≤2∧(2:Int)<(([a,r,t,q].length:Nat):Int))=true:=rfl
   have d3:decide ((0:Int)≤3∧(3:Int)<(([a,r,t,q].length:Nat):Int))=true:=rfl
   have w0:okAt [.flt .f32] (fls .f32 w) 0=true:=okAt_fls (by omega)
   have q0:decide ((0:Int)≤0∧(0:Int)<(w.length:Int))=true:=decide_eq_true (by omega)
   simp only[Ef.eff,show ((3:Int)==0)=false from rfl,show ((3:Int)==1)=false from rfl,show ((3:Int)==2)=false from rfl,beq_self_eq_true,br_t,br_f,g 0 (by decide),g 1 (by decide),g 2 (by decide),g 3 (by decide),k0,k1,k2,k3,d0,d1,d2,d3,w0,q0,Bool.and_self,gd_t]
   rw[fAt_fls]
   simp only[e1,bd_s,hs2]
   rfl
 | clip g =>
   obtain rfl:w=[]:=List.length_eq_zero_iff.1 hwl
   have e1:=s_clips (n+96) g xs hx hl (by omega)
   have e1:f121 (n+101) xs.length (fls .f32 xs) g=_:=e1
   have g1:decide ((0:Int)≤0∧(0:Int)<(([g].length:Nat):Int))=true:=rfl
   have g2:okAt [.flt .f32] (fls .f32 [g]) 0=true:=rfl
   have g3:fAt (fls .f32 [g]) 0=g:=rfl
   have hs:scan (Ef.clip g).step [] xs=(xs.map (clipM g),[]):=scan_pure (clipM g) xs
   simp only[Ef.eff,show ((4:Int)==0)=false from rfl,show ((4:Int)==1)=false from rfl,show ((4:Int)==2)=false from rfl,show ((4:Int)==3)=false from rfl,beq_self_eq_true,br_t,br_f,g1,g2,g3,Bool.and_self,gd_t,e1,bd_s,hs,List.length_map]
   rfl
 | bend =>
   obtain rfl:w=[]:=List.length_eq_zero_iff.1 hwl
   have e1:=s_bends_loop (n+100) xs [] [] (n+101) (by simp;omega) (by simp;omega) (by omega)
   have e1:f94.l1 (n+101) (n+101) xs.length (fls .f32 xs) 0 (reps 0 [(T.flt .f32 0)]) 0=_:=e1
   have hs:scan Ef.bend.step [] xs=(xs.map bendM,[]):=scan_pure bendM xs
   simp only[Ef.eff,show ((5:Int)==0)=false from rfl,show ((5:Int)==1)=false from rfl,show ((5:Int)==2)=false from rfl,show ((5:Int)==3)=false from rfl,show ((5:Int)==4)=false from rfl,beq_self_eq_true,br_t,br_f,e1,bd_s,hs]
   rfl
 | lim A k r =>
   have hA:A≤32∧W32 k∧(fin32 k&&fgt .f32 k 0)=true:=he
   have hwA:w.length=A+1:=hwl
   obtain ⟨gg,v,hs2,hs⟩:=sim_lim A k r xs w hwA
   have hk:=hA.2.2
   have e1:=s_runlimiter n k r (w.getD 0 0) (w.drop 1) xs hA.2.1 hk (w32_at hww 0) (fun y hy=>hww y (List.mem_of_mem_drop hy)) (by simp;omega) hx hl (by omega)
   rw[hs,List.length_drop] at e1
   have hfit:=run_fit (e:=.lim A k r) he xs ⟨hwl,hww⟩ hx
   have hv:v.length=A:=by
    have h1:(scan (Ef.lim A k r).step w xs).2.length=A+1:=hfit.2.1
    rw[hs2] at h1
    simpa using h1
   have g1:decide ((0:Int)≤0∧(0:Int)<(([k,r].length:Nat):Int))=true:=rfl
   have g2:okAt [.flt .f32] (fls .f32 [k,r]) 0=true:=rfl
   have g3:fAt (fls .f32 [k,r]) 0=k:=rfl
   have g4:decide ((0:Int)≤1∧(1:Int)<(([k,r].length:Nat):Int))=true:=rfl
   have g5:okAt [.flt .f32] (fls .f32 [k,r]) 1=true:=rfl
   have g6:fAt (fls .f32 [k,r]) 1=r:=rfl
   have w0:okAt [.flt .f32] (fls .f32 w) 0=true:=okAt_fls (by omega)
   have q0:decide ((0:Int)≤0∧(0:Int)<(w.length:Int))=true:=decide_eq_true (by omega)
   have q1:decide ((0:Int)≤1∧(1:Int)≤(w.length:Int)∧(w.length:Int)≤(w.length:Int))=true:=decide_eq_true (by omega)
   have b1:Nat.ble (1+v.length) 2147483648=true:=by rw[Nat.ble_eq];omega
   simp only[Ef.eff,show ((6:Int)==0)=false from rfl,show ((6:Int)==1)=false from rfl,show ((6:Int)==2)=false from rfl,show ((6:Int)==3)=false from rfl,show ((6:Int)==4)=false from rfl,show ((6:Int)==5)=false from rfl,br_f,g1,g2,g3,g4,g5,g6,w0,q0,q1,Bool.and_self,gd_t,drop_one]
   rw[fAt_fls]
   simp only[e1,bd_s,b1,gd_t,hs2]
   rw[Nat.add_comm 1 v.length]
   rfl
theorem s_chain_loop2 (n:Nat) (hn:600<n) (es:List Ef) (hle:es.length≤100) (ho:∀ e∈es,e.Ok) (ls:List (List Nat)) (hf:Fits es ls):∀ (j i m:Nat) (P:List (List Nat)) (xs:List Nat),i+j=es.length→P.length≤i→AllW xs→xs.length≤256→j<m →
  f57.l0 (n+102) m es.length (effs (effL es)) ls.length (ls.map rwF) xs.length (fls .f32 xs) P.length (P.map rwF) (i:Int) =
   some ((chainGo (es.drop i) (ls.drop i) xs).1.length,fls .f32 (chainGo (es.drop i) (ls.drop i) xs).1,(P++(chainGo (es.drop i) (ls.drop i) xs).2).length,(P++(chainGo (es.drop i) (ls.drop i) xs).2).map rwF):=by
 have hlen:=hf.len
 intro j
 induction j with
 | zero =>
   intro i m P xs hi hP hx hl hm
   obtain ⟨m,rfl⟩:∃ k,m=k+1:=⟨m - 1,by omega⟩
   rw[f57.l0,nlt_dec (by omega),List.drop_eq_nil_of_le (show es.length≤i by omega),List.drop_eq_nil_of_le (show ls.length≤i by omega)]
   simp only[br_f,chainGo,List.append_nil]
 | succ j ih =>
   intro i m P xs hi hP hx hl hm
   obtain ⟨m,rfl⟩:∃ k,m=k+1:=⟨m - 1,by omega⟩
   have h:i<es.length:=by omega
   have he:i<(effL es).length:=by rw[effL_length];exact h
   have hil:i<ls.length:=by omega
   have hO:=ho _ (efAt_mem h)
   have hF:=hf.at i h
   have e1:=s_effects n hO hF hx hl hn
   obtain ⟨f1,f2⟩:=run_fit hO xs hF hx
   have l1:(scan (efAt es i).step (row ls i) xs).1.length=xs.length:=scan_length _ _ _
   have step:=ih (i+1) m (P++[(scan (efAt es i).step (row ls i) xs).2]) (scan (efAt es i).step (row ls i) xs).1 (by omega) (by simp;omega) f1 (by omega) (by omega)
   have hd:chainGo (es.drop i) (ls.drop i) xs=((chainGo (es.drop (i+1)) (ls.drop (i+1)) (scan (efAt es i).step (row ls i) xs).1).1,(scan (efAt es i).step (row ls i) xs).2::(chainGo (es.drop (i+1)) (ls.drop (i+1)) (scan (efAt es i).step (row ls i) xs).1).2):=by
    rw[ef_drop h,row_drop hil];rfl
   have hp:=push_rw P (scan (efAt es i).step (row ls i) xs).2
   rw[f57.l0,lt_dec h,in_dec h,in_dec hil,Int.toNat_natCast,okE he,okR hil]
   simp only[br_t,Bool.and_self,gd_t,kE he,gE he,nE he,lE he,effL_at h,nR hil,lR hil,e1,bd_s,push_ok (show P.length<2147483648 by omega),hp,wrap_succ (show i<9223372036854775807 by omega)]
   rw[push_len (z:=(scan (efAt es i).step (row ls i) xs).2),step,hd]
   simp
theorem s_runchain (n:Nat) (hn:600<n) (es:List Ef) (hle:es.length≤100) (ho:∀ e∈es,e.Ok) (ls:List (List Nat)) (hf:Fits es ls) (xs:List Nat) (hx:AllW xs) (hl:xs.length≤256) :
  f57 (n+103) es.length (effs (effL es)) ls.length (ls.map rwF) xs.length (fls .f32 xs) =
   some ((chainGo es ls xs).1.length,fls .f32 (chainGo es ls xs).1,(chainGo es ls xs).2.length,(chainGo es ls xs).2.map rwF):=by
 have e1:=s_chain_loop2 n hn es hle ho ls hf es.length 0 (n+102) [] xs (by omega) (by simp) hx hl (by omega)
 have e1:f57.l0 (n+102) (n+102) es.length (effs (effL es)) ls.length (ls.map rwF) xs.length (fls .f32 xs) 0 (reps 0 [(T.lst 0 [])]) 0=_:=e1
 rw[f57,le_ble (show 0+xs.length≤2147483648 by omega)]
 simp only[gd_t,Nat.zero_add,reps0,e1,bd_s,List.drop_zero,List.nil_append]
def effB (e:Eff):Bool :=
 if e.kind=0∨e.kind=4 then decide (e.len=0∧e.nums.length=1)
 else if e.kind=1 then decide (e.len=0∧e.nums.length=5)
 else if e.kind=2 then decide ((1≤e.len∧e.len≤32)∧e.nums.length=2)
 else if e.kind=3 then decide (e.len=0∧e.nums.length=4)
 else if e.kind=5 then decide (e.len=0∧e.nums.length=0)
 else if e.kind=6 then decide ((0≤e.len∧e.len≤32)∧e.nums.length=2)&&(fin32 (e.nums.getD 0 0)&&fgt .f32 (e.nums.getD 0 0) 0)
 else false
theorem i_hasB (n:Nat) (a b:Int) (c:Nat) (l:List T) (lo hi k:Int):f129 (n+2) a b c l lo hi k=some (decide (lo≤b∧b≤hi)&&((c:Int)==k)):=by
 rw[f129,i_in]
 simp only[bd_s]
 cases decide (lo≤b∧b≤hi) <;>rfl
theorem kind_cases (k:Int):k=0∨k=1∨k=2∨k=3∨k=4∨k=5∨k=6∨((k==0)=false∧(k==1)=false∧(k==2)=false∧(k==3)=false∧(k==4)=false∧(k==5)=false∧(k==6)=false):=by
 simp only[beq_eq_false_iff_ne];omega
theorem has_dec (b:Int) (c:Nat) (k:Nat):(decide ((0:Int)≤b∧b≤0)&&((c:Int)==(k:Int)))=decide (b=0∧c=k):=by
 rw[Bool.eq_iff_iff];simp;omega
theorem i_effB (n:Nat) (e:Eff):f99 (n+4) e.kind e.len e.nums.length (fls .f32 e.nums)=some (effB e):=by
 obtain ⟨k,b,l⟩:=e
 rw[f99]
 unfold effB
 simp only[i_hasB (n+1)]
 rcases kind_cases k with rfl | rfl | rfl | rfl | rfl | rfl | rfl | ⟨h0,h1,h2,h3,h4,h5,h6⟩
 ·have:=has_dec b l.length 1
  simp only[beq_self_eq_true,br_t,bd_s]
  rw[show ((1:Nat):Int)=1 from rfl] at this
  rw[this];rfl
 ·have:=has_dec b l.length 5
  simp only[show ((1:Int)==0)=false from rfl,show ((1:Int)==4)=false from rfl,beq_self_eq_true,br_t,br_f,bd_s]
  rw[show ((5:Nat):Int)=5 from rfl] at this
  rw[this];rfl
 ·simp only[show ((2:Int)==0)=false from rfl,show ((2:Int)==4)=false from rfl,show ((2:Int)==1)=false from rfl,beq_self_eq_true,br_t,br_f,bd_s]
  congr 1
  rw[if_neg (by decide),if_neg (by decide),if_pos trivial,Bool.eq_iff_iff];simp;omega
 ·have:=has_dec b l.length 4
  simp only[show ((3:Int)==0)=false from rfl,show ((3:Int)==4)=false from rfl,show ((3:Int)==1)=false from rfl,show ((3:Int)==2)=false from rfl,beq_self_eq_true,br_t,br_f,bd_s]
  rw[show ((4:Nat):Int)=4 from rfl] at this
  rw[this];rfl
 ·have:=has_dec b l.length 1
  simp only[show ((4:Int)==0)=false from rfl,beq_self_eq_true,br_t,br_f,bd_s]
  rw[show ((1:Nat):Int)=1 from rfl] at this
  rw[this];rfl
 ·have:=has_dec b l.length 0
  simp only[show ((5:Int)==0)=false from rfl,show ((5:Int)==4)=false from rfl,show ((5:Int)==1)=false from rfl,show ((5:Int)==2)=false from rfl,show ((5:Int)==3)=false from rfl,beq_self_eq_true,br_t,br_f,bd_s]
  rw[show ((0:Nat):Int)=0 from rfl] at this
  rw[this];rfl
 ·simp only[show ((6:Int)==0)=false from rfl,show ((6:Int)==4)=false from rfl,show ((6:Int)==1)=false from rfl,show ((6:Int)==2)=false from rfl,show ((6:Int)==3)=false from rfl,show ((6:Int)==5)=false from rfl,beq_self_eq_true,br_t,br_f,bd_s]
  rw[if_neg (by decide),if_neg (by decide),if_neg (by decide),if_neg (by decide),if_neg (by decide),if_pos trivial]
  by_cases hv:(0≤b∧b≤32)∧l.length=2
  ·rw[decide_eq_true hv.1,decide_eq_true hv,show (((l.length:Nat):Int)==2)=true by rw[hv.2];rfl,decide_eq_true (show (0:Int)≤0∧(0:Int)<((l.length:Nat):Int) by omega),okAt_fls (by omega)]
   simp only[Bool.and_self,br_t,gd_t,i_islimit,bd_s,fAt_fls,Bool.true_and]
  ·rw[decide_eq_false hv]
   have:(decide (0≤b∧b≤32)&&(((l.length:Nat):Int)==2))=false:=by
    rw[Bool.eq_false_iff];intro h;apply hv;simp at h;omega
   rw[this];rfl
 ·simp only[h0,h1,h2,h3,h4,h5,h6,br_f]
  simp only[beq_eq_false_iff_ne] at h0 h1 h2 h3 h4 h5 h6
  rw[if_neg (by simp[h0,h4]),if_neg h1,if_neg h2,if_neg h3,if_neg h5,if_neg h6]
theorem s_effB (n:Nat) (e:Eff):f107 (n+4) e.kind e.len e.nums.length (fls .f32 e.nums)=some (effB e):=by
 obtain ⟨k,b,l⟩:=e
 rw[f107]
 unfold effB
 simp only[s_in (n+2)]
 have cut:∀ (lo hi:Int) (c d:Int) (v:Option Bool),f93 (n+3) k b=some (c,d) →
   (bd (some (decide (lo≤b∧b≤hi))) fun r=>br (!r) (some false) (bd (f93 (n+3) k b) fun r7=>br (((l.length:Nat):Int)==r7.1) v (some false)))=br (decide (lo≤b∧b≤hi)&&(((l.length:Nat):Int)==c)) v (some false):=by
  intro lo hi c d v h
  rw[h]
  simp only[bd_s]
  cases decide (lo≤b∧b≤hi) <;>rfl
 rcases kind_cases k with rfl | rfl | rfl | rfl | rfl | rfl | rfl | ⟨h0,h1,h2,h3,h4,h5,h6⟩
 ·have c:=cut 0 0 1 0 (some true) (by rw[f93];rfl)
  have:=has_dec b l.length 1
  rw[show ((1:Nat):Int)=1 from rfl] at this
  simp only[show ((0:Int)==2)=false from rfl,show ((0:Int)==6)=false from rfl,br_f,show ((0:Int) != 6)=true from rfl,br_t]
  refine c.trans ?_
  rw[this]
  show br (decide (b=0∧l.length=1)) (some true) (some false)=some (decide (b=0∧l.length=1))
  cases decide (b=0∧l.length=1) <;>rfl
 ·have c:=cut 0 0 5 2 (some true) (by rw[f93];rfl)
  have:=has_dec b l.length 5
  rw[show ((5:Nat):Int)=5 from rfl] at this
  simp only[show ((1:Int)==2)=false from rfl,show ((1:Int)==6)=false from rfl,br_f,show ((1:Int) != 6)=true from rfl,br_t]
  refine c.trans ?_
  rw[this]
  show br (decide (b=0∧l.length=5)) (some true) (some false)=some (decide (b=0∧l.length=5))
  cases decide (b=0∧l.length=5) <;>rfl
 ·have c:=cut 1 32 2 b (some true) (by rw[f93];rfl)
  simp only[beq_self_eq_true,show ((2:Int)==6)=false from rfl,br_f,show ((2:Int) != 6)=true from rfl,br_t]
  refine c.trans ?_
  have e:(decide (1≤b∧b≤32)&&(((l.length:Nat):Int)==2))=decide ((1≤b∧b≤32)∧l.length=2):=by rw[Bool.eq_iff_iff];simp;omega
  rw[e,if_neg (by decide),if_neg (by decide),if_pos trivial]
  cases decide ((1≤b∧b≤32)∧l.length=2) <;>rfl
 ·have c:=cut 0 0 4 1 (some true) (by rw[f93];rfl)
  have:=has_dec b l.length 4
  rw[show ((4:Nat):Int)=4 from rfl] at this
  simp only[show ((3:Int)==2)=false from rfl,show ((3:Int)==6)=false from rfl,br_f,show ((3:Int) != 6)=true from rfl,br_t]
  refine c.trans ?_
  rw[this]
  show br (decide (b=0∧l.length=4)) (some true) (some false)=some (decide (b=0∧l.length=4))
  cases decide (b=0∧l.length=4) <;>rfl
 ·have c:=cut 0 0 1 0 (some true) (by rw[f93];rfl)
  have:=has_dec b l.length 1
  rw[show ((1:Nat):Int)=1 from rfl] at this
  simp only[show ((4:Int)==2)=false from rfl,show ((4:Int)==6)=false from rfl,br_f,show ((4:Int) != 6)=true from rfl,br_t]
  refine c.trans ?_
  rw[this]
  show br (decide (b=0∧l.length=1)) (some true) (some false)=some (decide (b=0∧l.length=1))
  cases decide (b=0∧l.length=1) <;>rfl
 ·have c:=cut 0 0 0 0 (some true) (by rw[f93];rfl)
  have:=has_dec b l.length 0
  rw[show ((0:Nat):Int)=0 from rfl] at this
  simp only[show ((5:Int)==2)=false from rfl,show ((5:Int)==6)=false from rfl,br_f,show ((5:Int) != 6)=true from rfl,br_t]
  refine c.trans ?_
  rw[this]
  show br (decide (b=0∧l.length=0)) (some true) (some false)=some (decide (b=0∧l.length=0))
  cases decide (b=0∧l.length=0) <;>rfl
 ·have c:=fun v=>cut 0 32 2 (IntKind.i64.wrap (1+b)) v (by rw[f93];rfl)
  simp only[show ((6:Int)==2)=false from rfl,beq_self_eq_true,br_f,show ((6:Int) != 6)=false from rfl,br_t]
  refine (c _).trans ?_
  have e:(decide (0≤b∧b≤32)&&(((l.length:Nat):Int)==2))=decide ((0≤b∧b≤32)∧l.length=2):=by rw[Bool.eq_iff_iff];simp;omega
  rw[e,if_neg (by decide),if_neg (by decide),if_neg (by decide),if_neg (by decide),if_neg (by decide),if_pos trivial]
  by_cases hv:(0≤b∧b≤32)∧l.length=2
  ·rw[decide_eq_true hv,decide_eq_true (show (0:Int)≤0∧(0:Int)<((l.length:Nat):Int) by omega),okAt_fls (by omega),s_limitB (n+1)]
   simp only[Bool.and_self,br_t,gd_t,bd_s,fAt_fls,Bool.true_and]
  ·rw[decide_eq_false hv];rfl
 ·have hc:f93 (n+3) k b=some (-1,-1):=by
   rw[f93];simp only[h0,h1,h2,h3,h4,h5,h6,br_f]
  have c:=fun v=>cut 0 0 (-1) (-1) v hc
  simp only[h2,h6,br_f]
  refine (c _).trans ?_
  simp only[beq_eq_false_iff_ne] at h0 h1 h2 h3 h4 h5 h6
  rw[if_neg (by simp[h0,h4]),if_neg h1,if_neg h2,if_neg h3,if_neg h5,if_neg h6,show (((l.length:Nat):Int) == -1)=false by rw[beq_eq_false_iff_ne];omega,Bool.and_false]
  rfl
def GoodE (e:Eff):Prop:=GoodI .i64 e.kind∧GoodI .i64 e.len∧(∀ x∈e.nums,W32 x)
theorem ef_of {e:Eff} (h:effB e=true) (hw:∀ x∈e.nums,W32 x):∃ f:Ef,f.Ok∧f.eff=e:=by
 obtain ⟨k,b,l⟩:=e
 unfold effB at h
 simp only at h hw
 split at h
 ·rename_i hk
  simp only[decide_eq_true_eq] at h
  obtain ⟨rfl,hl⟩:=h
  match l,hl with
  | [g],_ =>
    rcases hk with rfl | rfl
    ·exact ⟨.scale g,trivial,rfl⟩
    ·exact ⟨.clip g,hw g (by simp),rfl⟩
 ·split at h
  ·rename_i _ hk
   subst hk
   simp only[decide_eq_true_eq] at h
   obtain ⟨rfl,hl⟩:=h
   match l,hl with
   | [a,b,c,d,e],_=>exact ⟨.filt a b c d e,trivial,rfl⟩
  ·split at h
   ·rename_i _ _ hk
    subst hk
    simp only[decide_eq_true_eq] at h
    obtain ⟨⟨h1,h2⟩,hl⟩:=h
    obtain ⟨L,rfl⟩:=Int.eq_ofNat_of_zero_le (show 0≤b by omega)
    match l,hl with
    | [p,q],_=>exact ⟨.echo L p q,⟨by omega,by omega⟩,rfl⟩
   ·split at h
    ·rename_i _ _ _ hk
     subst hk
     simp only[decide_eq_true_eq] at h
     obtain ⟨rfl,hl⟩:=h
     match l,hl with
     | [a,b,c,d],_=>exact ⟨.squeeze a b c d,trivial,rfl⟩
    ·split at h
     ·rename_i _ _ _ _ hk
      subst hk
      simp only[decide_eq_true_eq] at h
      obtain ⟨rfl,hl⟩:=h
      match l,hl with
      | [],_=>exact ⟨.bend,trivial,rfl⟩
     ·split at h
      ·rename_i _ _ _ _ _ hk
       subst hk
       rw[Bool.and_eq_true,decide_eq_true_eq] at h
       obtain ⟨⟨⟨h1,h2⟩,hl⟩,hlim⟩:=h
       obtain ⟨A,rfl⟩:=Int.eq_ofNat_of_zero_le h1
       match l,hl with
       | [p,q],_=>exact ⟨.lim A p q,⟨by omega,hw p (by simp),hlim⟩,rfl⟩
      ·cases h
def chainB (cs:List Eff):Bool:=decide (cs.length≤8)&&cs.all effB
theorem efs_of:∀ {cs:List Eff},cs.all effB=true→(∀ e∈cs,GoodE e)→∃ es:List Ef,effL es=cs∧∀ e∈es,e.Ok
 | [],_,_=>⟨[],rfl,by simp⟩
 | c::cs,h,hw=>by
   simp only[List.all_cons,Bool.and_eq_true] at h
   obtain ⟨f,h1,h2⟩:=ef_of h.1 (hw c (by simp)).2.2
   obtain ⟨es,h3,h4⟩:=efs_of h.2 (fun e he=>hw e (by simp[he]))
   refine ⟨f::es,by simp[effL] at h3 ⊢;exact ⟨h2,h3⟩,fun e he => ?_⟩
   rcases List.mem_cons.1 he with rfl | he
   ·exact h1
   ·exact h4 e he
theorem all_drop {cs:List Eff} {i:Nat} (h:i<cs.length):(cs.drop i).all effB=(effB (eAt cs i)&&(cs.drop (i+1)).all effB):=by
 rw[eff_drop h,List.all_cons]
theorem i_chainB_loop (n:Nat) (N:Nat) (ts:List T) (cs:List Eff) (hl:cs.length≤100):∀ (j i m:Nat),i+j=cs.length→j<m →
  f63.l0 (n+4) m N ts cs.length (effs cs) (cs.length:Int) (i:Int)=some (if (cs.drop i).all effB then Sum.inr () else Sum.inl false):=by
 intro j
 induction j with
 | zero =>
   intro i m hi hm
   obtain ⟨m,rfl⟩:∃ k,m=k+1:=⟨m - 1,by omega⟩
   rw[f63.l0,nlt_dec (by omega),List.drop_eq_nil_of_le (by omega)];rfl
 | succ j ih =>
   intro i m hi hm
   obtain ⟨m,rfl⟩:∃ k,m=k+1:=⟨m - 1,by omega⟩
   have h:i<cs.length:=by omega
   rw[f63.l0,lt_dec h,in_dec h,Int.toNat_natCast,okE h,all_drop h]
   simp only[br_t,Bool.and_self,gd_t,kE h,gE h,nE h,lE h,i_effB n (eAt cs i),bd_s,wrap_succ (show i<9223372036854775807 by omega)]
   cases effB (eAt cs i)
   ·rfl
   ·simp only[Bool.not_true,br_f,Bool.true_and]
    exact ih (i+1) m (by omega) (by omega)
theorem i_chainB (n:Nat) (cs:List Eff) (hn:100<n):f63 (n+5) cs.length (effs cs)=some (chainB cs):=by
 rw[f63]
 unfold chainB
 by_cases h:cs.length≤8
 ·have e:=i_chainB_loop n cs.length (effs cs) cs (by omega) cs.length 0 (n+4) (by omega) (by omega)
  have e:f63.l0 (n+4) (n+4) cs.length (effs cs) cs.length (effs cs) (cs.length:Int) 0=_:=e
  rw[decide_eq_false (by omega),e,decide_eq_true h,List.drop_zero]
  cases cs.all effB <;>rfl
 ·rw[decide_eq_true (by omega),decide_eq_false h];rfl
theorem s_chainB_loop (n:Nat) (cs:List Eff) (hl:cs.length≤8):∀ (j i m:Nat),i+j=cs.length→j<m →
  f78.l0 (n+4) m cs.length (effs cs) (i:Int)=some (if (cs.drop i).all effB then Sum.inr (cs.length,effs cs) else Sum.inl false):=by
 intro j
 induction j with
 | zero =>
   intro i m hi hm
   obtain ⟨m,rfl⟩:∃ k,m=k+1:=⟨m - 1,by omega⟩
   rw[f78.l0,nlt_dec (by omega),List.drop_eq_nil_of_le (by omega)];rfl
 | succ j ih =>
   intro i m hi hm
   obtain ⟨m,rfl⟩:∃ k,m=k+1:=⟨m - 1,by omega⟩
   have h:i<cs.length:=by omega
   rw[f78.l0,lt_dec h,in_dec h,Int.toNat_natCast,okE h,all_drop h,decide_eq_true (show (cs.length:Int)≤8 by omega)]
   simp only[br_t,Bool.and_self,gd_t,kE h,gE h,nE h,lE h,s_effB n (eAt cs i),bd_s,wrap_succ (show i<9223372036854775807 by omega)]
   cases effB (eAt cs i)
   ·rfl
   ·simp only[Bool.not_true,br_f,Bool.true_and]
    exact ih (i+1) m (by omega) (by omega)
theorem s_chainB (n:Nat) (cs:List Eff) (hn:100<n):f78 (n+5) cs.length (effs cs)=some (chainB cs):=by
 rw[f78]
 unfold chainB
 by_cases h:cs.length≤8
 ·have e:=s_chainB_loop n cs h cs.length 0 (n+4) (by omega) (by omega)
  have e:f78.l0 (n+4) (n+4) cs.length (effs cs) 0=_:=e
  rw[e,decide_eq_true h,List.drop_zero]
  cases cs.all effB
  ·rfl
  ·simp only[if_true,bd_s,sm_r,Bool.true_and,decide_eq_true (show (cs.length:Int)≤8 by omega)]
 ·have e:f78.l0 (n+4) (n+4) cs.length (effs cs) 0=some (Sum.inr (cs.length,effs cs)):=by
   rw[show n+4=(n+3)+1 from rfl,f78.l0,decide_eq_true (show (0:Int)<(cs.length:Int) by omega),decide_eq_false (show ¬ (cs.length:Int)≤8 by omega)]
   rfl
  rw[e,decide_eq_false h]
  simp only[bd_s,sm_r,Bool.false_and,decide_eq_false (show ¬ (cs.length:Int)≤8 by omega)]
structure Strp where
 es:List Eff
 tn:Int
 pan:Nat
 mute:Bool
 solo:Bool
def stC (s:Strp):List T:=[.lst s.es.length (effs s.es),.int .i64 s.tn,.flt .f32 s.pan,.bool s.mute,.bool s.solo]
def strps (ss:List Strp):List T:=ss.flatMap stC
def sAt5 (ss:List Strp) (i:Nat):Strp:=ss.getD i ⟨[],0,0,false,false⟩
theorem st_get {c:Nat} (hc:c<5):∀ (ts:List Strp) (i:Nat),i<ts.length→(strps ts)[i * 5+c]?=(stC (sAt5 ts i))[c]?
 | [],i,h=>by simp at h
 | t::ts,0,_=>by
   show (stC t++strps ts)[0 * 5+c]?=_
   rw[List.getElem?_append_left (by simp[stC];omega),Nat.zero_mul,Nat.zero_add];rfl
 | t::ts,i+1,h=>by
   show (stC t++strps ts)[(i+1) * 5+c]?=_
   rw[List.getElem?_append_right (by simp[stC];omega),show (i+1) * 5+c - (stC t).length=i * 5+c by simp[stC];omega,st_get hc ts i (by simpa using h)]
   rfl
section
variable {ts:List Strp} {i:Nat} (h:i<ts.length)
include h
theorem okS5:okAt [.lst,.int .i64,.flt .f32,.bool,.bool] (strps ts) (i * 5+0)=true:=by
 have h0:=st_get (c:=0) (by decide) ts i h
 have h1:=st_get (c:=1) (by decide) ts i h
 have h2:=st_get (c:=2) (by decide) ts i h
 have h3:=st_get (c:=3) (by decide) ts i h
 have h4:=st_get (c:=4) (by decide) ts i h
 simp only[stC,List.getElem?_cons_zero,List.getElem?_cons_succ] at h0 h1 h2 h3 h4
 rw[Nat.add_zero] at h0
 simp[okAt,Nat.add_assoc,h0,h1,h2,h3,h4,isCK]
theorem nS5:nAt (strps ts) (i * 5+0)=(sAt5 ts i).es.length:=by unfold nAt;rw[st_get (c:=0) (by decide) ts i h];rfl
theorem lS5:lAt (strps ts) (i * 5+0)=effs (sAt5 ts i).es:=by unfold lAt;rw[st_get (c:=0) (by decide) ts i h];rfl
theorem tS5:iAt (strps ts) (i * 5+0+1)=(sAt5 ts i).tn:=by unfold iAt;rw[show i * 5+0+1=i * 5+1 from rfl,st_get (c:=1) (by decide) ts i h];rfl
theorem pS5:fAt (strps ts) (i * 5+0+1+1)=(sAt5 ts i).pan:=by unfold fAt;rw[show i * 5+0+1+1=i * 5+2 from rfl,st_get (c:=2) (by decide) ts i h];rfl
theorem mS5:bAt (strps ts) (i * 5+0+1+1+1)=(sAt5 ts i).mute:=by unfold bAt;rw[show i * 5+0+1+1+1=i * 5+3 from rfl,st_get (c:=3) (by decide) ts i h];rfl
theorem oS5:bAt (strps ts) (i * 5+0+1+1+1+1)=(sAt5 ts i).solo:=by unfold bAt;rw[show i * 5+0+1+1+1+1=i * 5+4 from rfl,st_get (c:=4) (by decide) ts i h];rfl
theorem st_drop:ts.drop i=sAt5 ts i::ts.drop (i+1):=by
 rw[List.drop_eq_getElem_cons h]
 simp[sAt5,List.getD,h]
theorem sAt5_mem:sAt5 ts i∈ts:=by
 have:sAt5 ts i=ts[i]:=by simp[sAt5,List.getD,h]
 rw[this];exact List.getElem_mem h
end
def panB (x:Nat):Bool:=fge .f32 x 0&&fle .f32 x 1065353216
def stB (s:Strp):Bool:=chainB s.es&&(decide (-2000≤s.tn∧s.tn≤2000)&&panB s.pan)
def clB (n:Nat) (c:Eff):Bool:=decide (0≤c.kind∧c.kind≤(n:Int) - 1)&&(decide (0≤c.len∧c.len≤256)&&decide (c.nums.length≤256))
def sessB (cl:List Eff) (ss:List Strp):Bool:=decide (1≤ss.length∧ss.length≤8)&&(decide (cl.length≤12)&&(ss.all stB&&cl.all (clB ss.length)))
theorem i_panB (n x:Nat):f65 (n+1) x=some (panB x):=by
 rw[f65];unfold panB;cases fge .f32 x 0 <;>rfl
theorem s_panB (n x:Nat):f108 (n+1) x=some (panB x):=by
 rw[f108];unfold panB;cases fge .f32 x 0 <;>rfl
theorem i_tenths (n:Nat) (t:Int):f64 (n+2) t=some (decide (-2000≤t∧t≤2000)):=by rw[f64,i_in];rfl
theorem i_count (n:Nat) (t:Int):f26 (n+2) t=some (decide (0≤t∧t≤256)):=by rw[f26,i_in];rfl
theorem i_index (n:Nat) (t:Int) (k:Nat) (hk:k≤1099511627776):f31 (n+2) t (k:Int)=some (decide (0≤t∧t≤(k:Int) - 1)):=by
 rw[f31,show IntKind.i64.wrap ((k:Int) - 1)=(k:Int) - 1 by rw[wrap64] <;>omega,i_in];rfl
theorem i_nodes (n:Nat) (t:Int):f62 (n+2) t=some (decide (1≤t∧t≤8)):=by rw[f62,i_in];rfl
theorem st_all {ss:List Strp} {i:Nat} (h:i<ss.length):(ss.drop i).all stB=(stB (sAt5 ss i)&&(ss.drop (i+1)).all stB):=by
 rw[st_drop h,List.all_cons]
theorem cl_all {cs:List Eff} {i n:Nat} (h:i<cs.length):(cs.drop i).all (clB n)=(clB n (eAt cs i)&&(cs.drop (i+1)).all (clB n)):=by
 rw[eff_drop h,List.all_cons]
theorem i_st_loop (n:Nat) (hn:100<n) (N:Nat) (ts:List T) (M:Nat) (us:List T) (ss:List Strp) (hl:ss.length≤100):∀ (j i m:Nat),i+j=ss.length→j<m →
  f25.l0 (n+5) m N ts M us ss.length (strps ss) (ss.length:Int) (i:Int)=some (if (ss.drop i).all stB then Sum.inr (N,ts,M,us) else Sum.inl false):=by
 intro j
 induction j with
 | zero =>
   intro i m hi hm
   obtain ⟨m,rfl⟩:∃ k,m=k+1:=⟨m - 1,by omega⟩
   rw[f25.l0,nlt_dec (by omega),List.drop_eq_nil_of_le (by omega)];rfl
 | succ j ih =>
   intro i m hi hm
   obtain ⟨m,rfl⟩:∃ k,m=k+1:=⟨m - 1,by omega⟩
   have h:i<ss.length:=by omega
   rw[f25.l0,lt_dec h,in_dec h,Int.toNat_natCast,okS5 h,st_all h]
   simp only[br_t,Bool.and_self,gd_t,nS5 h,lS5 h,tS5 h,pS5 h,i_chainB n (sAt5 ss i).es hn,i_tenths (n+3),i_panB (n+4),bd_s,wrap_succ (show i<9223372036854775807 by omega)]
   unfold stB
   cases chainB (sAt5 ss i).es
   ·rfl
   ·cases decide (-2000≤(sAt5 ss i).tn∧(sAt5 ss i).tn≤2000)
    ·rfl
    ·cases panB (sAt5 ss i).pan
     ·rfl
     ·simp only[Bool.not_true,br_f,Bool.true_and]
      exact ih (i+1) m (by omega) (by omega)
theorem i_cl_loop (n:Nat) (N:Nat) (ts:List T) (M:Nat) (us:List T) (hM:M≤1000) (cs:List Eff) (hl:cs.length≤100):∀ (j i m:Nat),i+j=cs.length→j<m →
  f25.l1 (n+2) m N ts M us cs.length (effs cs) (cs.length:Int) (i:Int)=some (if (cs.drop i).all (clB M) then Sum.inr () else Sum.inl false):=by
 intro j
 induction j with
 | zero =>
   intro i m hi hm
   obtain ⟨m,rfl⟩:∃ k,m=k+1:=⟨m - 1,by omega⟩
   rw[f25.l1,nlt_dec (by omega),List.drop_eq_nil_of_le (by omega)];rfl
 | succ j ih =>
   intro i m hi hm
   obtain ⟨m,rfl⟩:∃ k,m=k+1:=⟨m - 1,by omega⟩
   have h:i<cs.length:=by omega
   have e3:decide (((eAt cs i).nums.length:Int)≤256)=decide ((eAt cs i).nums.length≤256):=by rw[decide_eq_decide];omega
   rw[f25.l1,lt_dec h,in_dec h,Int.toNat_natCast,okE h,cl_all h]
   simp only[br_t,Bool.and_self,gd_t,kE h,gE h,nE h,lE h,i_index n (eAt cs i).kind M (by omega),i_count n,i_few,e3,bd_s,wrap_succ (show i<9223372036854775807 by omega)]
   unfold clB
   cases decide (0≤(eAt cs i).kind∧(eAt cs i).kind≤(M:Int) - 1)
   ·rfl
   ·cases decide (0≤(eAt cs i).len∧(eAt cs i).len≤256)
    ·rfl
    ·cases decide ((eAt cs i).nums.length≤256)
     ·rfl
     ·simp only[Bool.not_true,br_f,Bool.true_and]
      exact ih (i+1) m (by omega) (by omega)
theorem i_sessB (n:Nat) (cl:List Eff) (ss:List Strp) (hn:200<n):f25 (n+6) cl.length (effs cl) ss.length (strps ss)=some (sessB cl ss):=by
 rw[f25,i_sized (n+4)]
 simp only[bd_s,i_nodes (n+3)]
 unfold sessB
 by_cases h1:1≤ss.length∧ss.length≤8
 ·rw[decide_eq_true h1,decide_eq_true (show (1:Int)≤(ss.length:Int)∧(ss.length:Int)≤8 by omega)]
  by_cases h2:cl.length≤12
  ·rw[decide_eq_true h2,decide_eq_false (show ¬ (cl.length:Int)>12 by omega)]
   have e1:=i_st_loop n (by omega) cl.length (effs cl) ss.length (strps ss) ss (by omega) ss.length 0 (n+5) (by omega) (by omega)
   have e1:f25.l0 (n+5) (n+5) cl.length (effs cl) ss.length (strps ss) ss.length (strps ss) (ss.length:Int) 0=_:=e1
   have e2:=i_cl_loop (n+3) cl.length (effs cl) ss.length (strps ss) (by omega) cl (by omega) cl.length 0 (n+5) (by omega) (by omega)
   have e2:f25.l1 (n+5) (n+5) cl.length (effs cl) ss.length (strps ss) cl.length (effs cl) (cl.length:Int) 0=_:=e2
   simp only[Bool.not_true,br_f,e1,List.drop_zero,Bool.true_and]
   cases ss.all stB
   ·rfl
   ·simp only[if_true,bd_s,sm_r,e2,List.drop_zero,Bool.true_and]
    cases cl.all (clB ss.length) <;>rfl
  ·rw[decide_eq_false h2,decide_eq_true (show (cl.length:Int)>12 by omega)];rfl
 ·rw[decide_eq_false h1,decide_eq_false (show ¬ ((1:Int)≤(ss.length:Int)∧(ss.length:Int)≤8) by omega)];rfl
theorem s_strip1 (n:Nat) (a:Nat) (b:List T) (c:Int) (d:Nat) (e f:Bool) (g:Nat) (h:List T):∃ x y,f44 (n+1) a b c d e f g h=some (g,h,c,d,e,f,x,y):=by
 rw[f44];exact ⟨_,_,rfl⟩
theorem s_tracks1 (n:Nat) (hn:10<n) (c:Int) (d:Nat) (e f:Bool):f79 (n+2) 1 (setN (reps 1 [(T.lst 0 []),(T.int .i64 (0:Int)),(T.flt .f32 0),(T.bool false),(T.bool false)]) 0 [(T.lst 0 (reps 0 [(T.flt .f32 0)])),(T.int .i64 c),(T.flt .f32 d),(T.bool e),(T.bool f)])=some (decide (-2000≤c∧c≤2000)&&panB d):=by
 obtain ⟨n,rfl⟩:∃ k,n=k+2:=⟨n - 2,by omega⟩
 have hs:setN (reps 1 [(T.lst 0 []),(T.int .i64 (0:Int)),(T.flt .f32 0),(T.bool false),(T.bool false)]) 0 [(T.lst 0 (reps 0 [(T.flt .f32 0)])),(T.int .i64 c),(T.flt .f32 d),(T.bool e),(T.bool f)]=[(T.lst 0 []),(T.int .i64 c),(T.flt .f32 d),(T.bool e),(T.bool f)]:=rfl
 have l1:f79.l0 (n+2+1) (n+2+1) 1 [(T.lst 0 []),(T.int .i64 c),(T.flt .f32 d),(T.bool e),(T.bool f)] ((1:Nat):Int) 0=some (if decide (-2000≤c∧c≤2000)&&panB d then Sum.inr (1,[(T.lst 0 []),(T.int .i64 c),(T.flt .f32 d),(T.bool e),(T.bool f)]) else Sum.inl false):=by
  rw[f79.l0]
  have k0:decide ((0:Int)<((1:Nat):Int))=true:=rfl
  have k1:decide ((0:Int)≤0∧(0:Int)<((1:Nat):Int))=true:=rfl
  have k2:okAt [.lst,.int .i64,.flt .f32,.bool,.bool] [(T.lst 0 []),(T.int .i64 c),(T.flt .f32 d),(T.bool e),(T.bool f)] (Int.toNat 0 * 5+0)=true:=rfl
  have k3:nAt [(T.lst 0 []),(T.int .i64 c),(T.flt .f32 d),(T.bool e),(T.bool f)] (Int.toNat 0 * 5+0)=0:=rfl
  have k4:iAt [(T.lst 0 []),(T.int .i64 c),(T.flt .f32 d),(T.bool e),(T.bool f)] (Int.toNat 0 * 5+0+1)=c:=rfl
  have k5:fAt [(T.lst 0 []),(T.int .i64 c),(T.flt .f32 d),(T.bool e),(T.bool f)] (Int.toNat 0 * 5+0+1+1)=d:=rfl
  rw[k0,k1,k2,k3,k4,k5]
  simp only[br_t,Bool.and_self,gd_t,s_few,bd_s,s_in,s_panB]
  cases decide (-2000≤c∧c≤2000)
  ·rfl
  ·cases panB d
   ·rfl
   ·show f79.l0 (n+2+1) (n+2) 1 _ ((1:Nat):Int) 1=_
    rw[f79.l0];rfl
 rw[hs,f79,l1]
 cases decide (-2000≤c∧c≤2000)&&panB d <;>rfl
theorem s_st_loop (n:Nat) (hn:100<n) (N:Nat) (ts:List T) (i5:Int) (ss:List Strp) (hl:ss.length≤100):∀ (j i m:Nat),i+j=ss.length→j<m →
  f37.l0 (n+5) m N ts ss.length (strps ss) i5 (ss.length:Int) (i:Int)=some (if (ss.drop i).all stB then Sum.inr (N,ts,ss.length,strps ss,i5) else Sum.inl false):=by
 intro j
 induction j with
 | zero =>
   intro i m hi hm
   obtain ⟨m,rfl⟩:∃ k,m=k+1:=⟨m - 1,by omega⟩
   rw[f37.l0,nlt_dec (by omega),List.drop_eq_nil_of_le (by omega)];rfl
 | succ j ih =>
   intro i m hi hm
   obtain ⟨m,rfl⟩:∃ k,m=k+1:=⟨m - 1,by omega⟩
   have h:i<ss.length:=by omega
   rw[f37.l0,lt_dec h,in_dec h,Int.toNat_natCast,okS5 h,st_all h]
   simp only[br_t,Bool.and_self,gd_t,nS5 h,lS5 h,tS5 h,pS5 h,mS5 h,oS5 h]
   obtain ⟨x,y,e1⟩:=s_strip1 (n+4) (sAt5 ss i).es.length (effs (sAt5 ss i).es) (sAt5 ss i).tn (sAt5 ss i).pan (sAt5 ss i).mute (sAt5 ss i).solo 0 (reps 0 [(T.flt .f32 0)])
   rw[e1]
   have e2:=s_tracks1 (n+3) (by omega) (sAt5 ss i).tn (sAt5 ss i).pan (sAt5 ss i).mute (sAt5 ss i).solo
   simp only[bd_s,s_chainB n (sAt5 ss i).es hn,e2,wrap_succ (show i<9223372036854775807 by omega)]
   unfold stB
   cases chainB (sAt5 ss i).es
   ·rfl
   ·cases decide (-2000≤(sAt5 ss i).tn∧(sAt5 ss i).tn≤2000)&&panB (sAt5 ss i).pan
    ·rfl
    ·simp only[Bool.not_true,br_f,Bool.true_and]
     exact ih (i+1) m (by omega) (by omega)
theorem s_cl_loop (n:Nat) (N:Nat) (ts:List T) (M:Nat) (hM:M≤1000) (cs:List Eff) (hl:cs.length≤100):∀ (j i m:Nat),i+j=cs.length→j<m →
  f37.l1 (n+2) m cs.length (effs cs) N ts (M:Int) (cs.length:Int) (i:Int)=some (if (cs.drop i).all (clB M) then Sum.inr () else Sum.inl false):=by
 intro j
 induction j with
 | zero =>
   intro i m hi hm
   obtain ⟨m,rfl⟩:∃ k,m=k+1:=⟨m - 1,by omega⟩
   rw[f37.l1,nlt_dec (by omega),List.drop_eq_nil_of_le (by omega)];rfl
 | succ j ih =>
   intro i m hi hm
   obtain ⟨m,rfl⟩:∃ k,m=k+1:=⟨m - 1,by omega⟩
   have h:i<cs.length:=by omega
   have e3:decide (((eAt cs i).nums.length:Int)≤256)=decide ((eAt cs i).nums.length≤256):=by rw[decide_eq_decide];omega
   rw[f37.l1,lt_dec h,in_dec h,Int.toNat_natCast,okE h,cl_all h,show IntKind.i64.wrap ((M:Int) - 1)=(M:Int) - 1 by rw[wrap64] <;>omega]
   simp only[br_t,Bool.and_self,gd_t,kE h,gE h,nE h,lE h,s_in (n+1),s_few,e3,bd_s,wrap_succ (show i<9223372036854775807 by omega)]
   unfold clB
   cases decide (0≤(eAt cs i).kind∧(eAt cs i).kind≤(M:Int) - 1)
   ·rfl
   ·cases decide (0≤(eAt cs i).len∧(eAt cs i).len≤256)
    ·rfl
    ·cases decide ((eAt cs i).nums.length≤256)
     ·rfl
     ·simp only[Bool.not_true,br_f,Bool.true_and]
      exact ih (i+1) m (by omega) (by omega)
theorem s_sessB (n:Nat) (cl:List Eff) (ss:List Strp) (hn:200<n):f37 (n+6) cl.length (effs cl) ss.length (strps ss)=some (sessB cl ss):=by
 rw[f37]
 simp only[bd_s,s_in (n+4)]
 unfold sessB
 by_cases h1:1≤ss.length∧ss.length≤8
 ·rw[decide_eq_true h1,decide_eq_true (show (1:Int)≤(ss.length:Int)∧(ss.length:Int)≤8 by omega)]
  by_cases h2:cl.length≤12
  ·rw[decide_eq_true h2,decide_eq_false (show ¬ (cl.length:Int)>12 by omega)]
   have e1:=s_st_loop n (by omega) cl.length (effs cl) (ss.length:Int) ss (by omega) ss.length 0 (n+5) (by omega) (by omega)
   have e1:f37.l0 (n+5) (n+5) cl.length (effs cl) ss.length (strps ss) (ss.length:Int) (ss.length:Int) 0=_:=e1
   have e2:=s_cl_loop (n+3) ss.length (strps ss) ss.length (by omega) cl (by omega) cl.length 0 (n+5) (by omega) (by omega)
   have e2:f37.l1 (n+5) (n+5) cl.length (effs cl) ss.length (strps ss) (ss.length:Int) (cl.length:Int) 0=_:=e2
   simp only[Bool.not_true,br_f,e1,List.drop_zero,Bool.true_and]
   cases ss.all stB
   ·rfl
   ·simp only[if_true,bd_s,sm_r,e2,List.drop_zero,Bool.true_and]
    cases cl.all (clB ss.length) <;>rfl
  ·rw[decide_eq_false h2,decide_eq_true (show (cl.length:Int)>12 by omega)];rfl
 ·rw[decide_eq_false h1,decide_eq_false (show ¬ ((1:Int)≤(ss.length:Int)∧(ss.length:Int)≤8) by omega)];rfl
def addAt (p:Int) (x:Nat) (out:List Nat):List Nat:=if 0≤p∧p<(out.length:Int) then out.set p.toNat (fadd .f32 (out.getD p.toNat 0) x) else out
def addClip:Int→List Nat→List Nat→List Nat
 | _,[],out=>out
 | p,x::xs,out=>addClip (p+1) xs (addAt p x out)
def trackGo (track frm:Int):List Eff→List Nat→List Nat
 | [],out=>out
 | c::cs,out=>trackGo track frm cs (if c.kind=track then addClip (c.len - frm) c.nums out else out)
theorem addAt_length (p:Int) (x:Nat) (out:List Nat):(addAt p x out).length=out.length:=by unfold addAt;split <;>simp
theorem addClip_length:∀ (xs:List Nat) (p:Int) (out:List Nat),(addClip p xs out).length=out.length
 | [],_,_=>rfl
 | x::xs,p,out=>by rw[addClip,addClip_length xs,addAt_length]
theorem trackGo_length (track frm:Int):∀ (cs:List Eff) (out:List Nat),(trackGo track frm cs out).length=out.length
 | [],_=>rfl
 | c::cs,out=>by
   rw[trackGo,trackGo_length track frm cs]
   split
   ·rw[addClip_length]
   ·rfl
theorem addAt_w32 {p:Int} {x:Nat} {out:List Nat} (h:AllW out):AllW (addAt p x out):=by
 unfold addAt
 split
 ·intro y hy
  rcases List.mem_or_eq_of_mem_set hy with h' | rfl
  ·exact h y h'
  ·exact w32_fadd _ _
 ·exact h
theorem addClip_w32:∀ (xs:List Nat) (p:Int) (out:List Nat),AllW out→AllW (addClip p xs out)
 | [],_,_,h=>h
 | x::xs,p,out,h=>addClip_w32 xs _ _ (addAt_w32 h)
theorem trackGo_w32 (track frm:Int):∀ (cs:List Eff) (out:List Nat),AllW out→AllW (trackGo track frm cs out)
 | [],_,h=>h
 | c::cs,out,h=>by
   rw[trackGo]
   refine trackGo_w32 track frm cs _ ?_
   split
   ·exact addClip_w32 _ _ _ h
   ·exact h
theorem setN_flt {out:List Nat} {i y:Nat}:setN (fls .f32 out) i [T.flt .f32 y]=fls .f32 (out.set i y):=by rw[setN_one];simp[fls,List.map_set]
theorem i_samples_clip (n:Nat) (i1 i2:Int) (n4:Nat) (l5:List T) (n6:Nat) (l7:List T) (k:Nat) (i10:Int) (at_:Int) (n12:Nat) (l13:List T) (n14:Nat) (l15:List T) (i16 i17:Int) (hk:k≤100000) (ha : -10000000≤at_∧at_≤10000000) (hf : -10000000≤i2∧i2≤10000000) :
  ∀ (zs p out:List Nat) (m:Nat),out.length=k→p.length+zs.length<1048576→zs.length<m →
  f69.l1 (n+1) m i1 i2 (k:Int) n4 l5 n6 l7 k (fls .f32 out) i10 at_ n12 l13 n14 l15 i16 i17 (p++zs).length (fls .f32 (p++zs)) ((p++zs).length:Int) (p.length:Int) =
   some (i1,i2,(k:Int),n4,l5,n6,l7,k,fls .f32 (addClip (at_+(p.length:Int) - i2) zs out),n14,l15,i16,i17):=by
 intro zs
 induction zs with
 | nil =>
   intro p out m ho _ hm
   obtain ⟨m,rfl⟩:∃ k,m=k+1:=⟨m - 1,by simp at hm;omega⟩
   rw[f69.l1,lt_end];rfl
 | cons z zs ih =>
   intro p out m ho hp hm
   obtain ⟨m,rfl⟩:∃ k,m=k+1:=⟨m - 1,by simp at hm;omega⟩
   have hp':p.length<1048576:=by simp at hp;omega
   have w1:IntKind.i64.wrap (IntKind.i64.wrap (at_+(p.length:Int)) - i2)=at_+(p.length:Int) - i2:=by
    rw[wrap64 (x:=at_+(p.length:Int)) (by omega) (by omega),wrap64 (by omega) (by omega)]
   have w2:IntKind.i64.wrap ((k:Int) - 1)=(k:Int) - 1:=by rw[wrap64] <;>omega
   have w' :=wrap_len (z:=z) (p:=p) (show p.length<4611686018427387904 by omega)
   rw[f69.l1,lt_mid,in_mid,toNat_len,okAt_mid,fAt_mid]
   simp only[br_t,gd_t,Bool.and_self,w1,w2,i_in,bd_s,w']
   have hq:at_+((p++[z]).length:Int) - i2=at_+(p.length:Int) - i2+1:=by simp;omega
   rw[addClip]
   by_cases hc:0≤at_+(p.length:Int) - i2∧at_+(p.length:Int) - i2≤(k:Int) - 1
   ·obtain ⟨q,hq2⟩:=Int.eq_ofNat_of_zero_le hc.1
    have hqk:q<out.length:=by omega
    have step:=ih (p++[z]) (addAt (at_+(p.length:Int) - i2) z out) m (by rw[addAt_length];exact ho) (by simp at hp ⊢;omega) (by simp at hm;omega)
    rw[hq] at step
    have hadd:addAt (at_+(p.length:Int) - i2) z out=out.set q (fadd .f32 (out.getD q 0) z):=by
     unfold addAt;rw[hq2,if_pos (by omega)];rfl
    rw[hadd] at step ⊢
    rw[decide_eq_true hc,hq2] at *
    have g1:decide ((0:Int)≤(q:Int)∧(q:Int)<(k:Int))=true:=decide_eq_true (by omega)
    have g2:okAt [.flt .f32] (fls .f32 out) q=true:=okAt_fls hqk
    have g3:Nat.ble (q+1) (fls .f32 out).length=true:=by rw[fls_length];exact le_ble (by omega)
    simp only[br_t,g1,gd_t,Int.toNat_natCast,g2,g3,fAt_fls,setN_flt]
    simpa using step
   ·have step:=ih (p++[z]) (addAt (at_+(p.length:Int) - i2) z out) m (by rw[addAt_length];exact ho) (by simp at hp ⊢;omega) (by simp at hm;omega)
    have hadd:addAt (at_+(p.length:Int) - i2) z out=out:=by unfold addAt;rw[if_neg (by omega)]
    rw[hadd,hq] at step
    rw[hadd,decide_eq_false hc,br_f]
    simpa using step
theorem i_samples_loop (n:Nat) (track frm:Int) (N:Nat) (ts:List T) (M:Nat) (us:List T) (k:Nat) (hk:k≤100000) (hf : -10000000≤frm∧frm≤10000000) (cs:List Eff) (hl:cs.length≤100) (hcl:∀ c∈cs,(0≤c.len∧c.len≤256)∧c.nums.length≤256) (hn:300<n):∀ (j i m:Nat) (out:List Nat),i+j=cs.length→out.length=k→j<m →
  f69.l0 (n+1) m track frm (k:Int) N ts M us k (fls .f32 out) cs.length (effs cs) (cs.length:Int) (i:Int)=some (k,fls .f32 (trackGo track frm (cs.drop i) out)):=by
 intro j
 induction j with
 | zero =>
   intro i m out hi ho hm
   obtain ⟨m,rfl⟩:∃ k,m=k+1:=⟨m - 1,by omega⟩
   rw[f69.l0,nlt_dec (by omega),List.drop_eq_nil_of_le (by omega)];rfl
 | succ j ih =>
   intro i m out hi ho hm
   obtain ⟨m,rfl⟩:∃ k,m=k+1:=⟨m - 1,by omega⟩
   have h:i<cs.length:=by omega
   obtain ⟨c1,c2⟩:=hcl _ (eAt_mem h)
   rw[f69.l0,lt_dec h,in_dec h,Int.toNat_natCast,okE h,eff_drop h,trackGo]
   simp only[br_t,Bool.and_self,gd_t,kE h,gE h,nE h,lE h,bd_s,wrap_succ (show i<9223372036854775807 by omega)]
   by_cases hc:(eAt cs i).kind=track
   ·have e:=i_samples_clip n track frm N ts M us k (eAt cs i).kind (eAt cs i).len (eAt cs i).nums.length (fls .f32 (eAt cs i).nums) cs.length (effs cs) (cs.length:Int) (i:Int) hk (by omega) hf (eAt cs i).nums [] out (n+1) ho (by simp;omega) (by omega)
    have e:f69.l1 (n+1) (n+1) track frm (k:Int) N ts M us k (fls .f32 out) (eAt cs i).kind (eAt cs i).len (eAt cs i).nums.length (fls .f32 (eAt cs i).nums) cs.length (effs cs) (cs.length:Int) (i:Int) (eAt cs i).nums.length (fls .f32 (eAt cs i).nums) ((eAt cs i).nums.length:Int) 0=_:=e
    rw[show ((eAt cs i).kind != track)=false by simp[hc],if_pos hc]
    simp only[br_f,e,bd_s,List.length_nil,Int.natCast_zero,Int.add_zero,wrap_succ (show i<9223372036854775807 by omega)]
    exact ih (i+1) m _ (by omega) (by rw[addClip_length];exact ho) (by omega)
   ·rw[show ((eAt cs i).kind != track)=true by simp[hc],if_neg hc]
    simp only[br_t]
    exact ih (i+1) m out (by omega) ho (by omega)
theorem i_samples (n:Nat) (cs:List Eff) (M:Nat) (us:List T) (track frm:Int) (k:Nat) (hk:k≤100000) (hf : -10000000≤frm∧frm≤10000000) (hl:cs.length≤100) (hcl:∀ c∈cs,(0≤c.len∧c.len≤256)∧c.nums.length≤256) (hn:300<n) :
  f69 (n+2) cs.length (effs cs) M us track frm (k:Int)=some (k,fls .f32 (trackGo track frm cs (List.replicate k 0))):=by
 have e:=i_samples_loop n track frm cs.length (effs cs) M us k hk hf cs hl hcl hn cs.length 0 (n+1) (List.replicate k 0) (by omega) (by simp) (by omega)
 have e:f69.l0 (n+1) (n+1) track frm (k:Int) cs.length (effs cs) M us k (fls .f32 (List.replicate k 0)) cs.length (effs cs) (cs.length:Int) 0=_:=e
 rw[f69,i_zeroed n k (by omega)]
 simp only[bd_s,e,List.drop_zero]
theorem s_samples_clip (n:Nat) (N:Nat) (ts:List T) (M:Nat) (us:List T) (track:Int) (k:Nat) (i9 at_:Int) (i13 i14:Int) (hk:k≤100000) (ha:0≤at_∧at_≤10000000) :
  ∀ (zs p out:List Nat) (m:Nat),out.length=k→p.length+zs.length<1048576→zs.length<m →
  f56.l1 n m N ts M us track (k:Int) k (fls .f32 out) i9 at_ (p++zs).length (fls .f32 (p++zs)) i13 i14 ((p++zs).length:Int) (p.length:Int) =
   some (N,ts,M,us,track,(k:Int),k,fls .f32 (addClip (at_+(p.length:Int)) zs out),i13,i14):=by
 intro zs
 induction zs with
 | nil =>
   intro p out m ho _ hm
   obtain ⟨m,rfl⟩:∃ k,m=k+1:=⟨m - 1,by simp at hm;omega⟩
   rw[f56.l1,lt_end];rfl
 | cons z zs ih =>
   intro p out m ho hp hm
   obtain ⟨m,rfl⟩:∃ k,m=k+1:=⟨m - 1,by simp at hm;omega⟩
   have hp':p.length<1048576:=by simp at hp;omega
   have w1:IntKind.i64.wrap (at_+(p.length:Int))=at_+(p.length:Int):=by rw[wrap64] <;>omega
   have w' :=wrap_len (z:=z) (p:=p) (show p.length<4611686018427387904 by omega)
   rw[f56.l1,lt_mid,in_mid,toNat_len,okAt_mid,fAt_mid]
   simp only[br_t,gd_t,Bool.and_self,w1,bd_s,w']
   have hq:at_+((p++[z]).length:Int)=at_+(p.length:Int)+1:=by simp;omega
   rw[addClip]
   by_cases hc:at_+(p.length:Int)<(k:Int)
   ·obtain ⟨q,hq2⟩:=Int.eq_ofNat_of_zero_le (show 0≤at_+(p.length:Int) by omega)
    have hqk:q<out.length:=by omega
    have step:=ih (p++[z]) (addAt (at_+(p.length:Int)) z out) m (by rw[addAt_length];exact ho) (by simp at hp ⊢;omega) (by simp at hm;omega)
    rw[hq] at step
    have hadd:addAt (at_+(p.length:Int)) z out=out.set q (fadd .f32 (out.getD q 0) z):=by
     unfold addAt;rw[hq2,if_pos (by omega)];rfl
    rw[hadd] at step ⊢
    rw[decide_eq_true hc]
    rw[hq2] at *
    have g1:decide ((0:Int)≤(q:Int)∧(q:Int)<(k:Int))=true:=decide_eq_true (by omega)
    have g2:okAt [.flt .f32] (fls .f32 out) q=true:=okAt_fls hqk
    have g3:Nat.ble (q+1) (fls .f32 out).length=true:=by rw[fls_length];exact le_ble (by omega)
    simp only[br_t,g1,gd_t,Int.toNat_natCast,g2,g3,fAt_fls,setN_flt]
    simpa using step
   ·have step:=ih (p++[z]) (addAt (at_+(p.length:Int)) z out) m (by rw[addAt_length];exact ho) (by simp at hp ⊢;omega) (by simp at hm;omega)
    have hadd:addAt (at_+(p.length:Int)) z out=out:=by unfold addAt;rw[if_neg (by omega)]
    rw[hadd,hq] at step
    rw[hadd,decide_eq_false hc,br_f]
    simpa using step
theorem s_samples_loop (n:Nat) (track:Int) (M:Nat) (us:List T) (k:Nat) (hk:k≤100000) (cs:List Eff) (hl:cs.length≤100) (hcl:∀ c∈cs,(0≤c.len∧c.len≤256)∧c.nums.length≤256) (hn:300<n):∀ (j i m:Nat) (out:List Nat),i+j=cs.length→out.length=k→j<m →
  f56.l0 n m cs.length (effs cs) M us track (k:Int) k (fls .f32 out) (cs.length:Int) (i:Int)=some (k,fls .f32 (trackGo track 0 (cs.drop i) out)):=by
 intro j
 induction j with
 | zero =>
   intro i m out hi ho hm
   obtain ⟨m,rfl⟩:∃ k,m=k+1:=⟨m - 1,by omega⟩
   rw[f56.l0,nlt_dec (by omega),List.drop_eq_nil_of_le (by omega)];rfl
 | succ j ih =>
   intro i m out hi ho hm
   obtain ⟨m,rfl⟩:∃ k,m=k+1:=⟨m - 1,by omega⟩
   have h:i<cs.length:=by omega
   obtain ⟨c1,c2⟩:=hcl _ (eAt_mem h)
   rw[f56.l0,lt_dec h,in_dec h,Int.toNat_natCast,okE h,eff_drop h,trackGo]
   simp only[br_t,Bool.and_self,gd_t,kE h,gE h,nE h,lE h,bd_s,wrap_succ (show i<9223372036854775807 by omega)]
   by_cases hc:(eAt cs i).kind=track
   ·have e:=s_samples_clip n cs.length (effs cs) M us track k (eAt cs i).kind (eAt cs i).len (cs.length:Int) (i:Int) hk (by omega) (eAt cs i).nums [] out n ho (by simp;omega) (by omega)
    have e:f56.l1 n n cs.length (effs cs) M us track (k:Int) k (fls .f32 out) (eAt cs i).kind (eAt cs i).len (eAt cs i).nums.length (fls .f32 (eAt cs i).nums) (cs.length:Int) (i:Int) ((eAt cs i).nums.length:Int) 0=_:=e
    rw[show ((eAt cs i).kind != track)=false by simp[hc],if_pos hc]
    simp only[br_f,e,bd_s,List.length_nil,Int.natCast_zero,Int.add_zero,Int.sub_zero,wrap_succ (show i<9223372036854775807 by omega)]
    exact ih (i+1) m _ (by omega) (by rw[addClip_length];exact ho) (by omega)
   ·rw[show ((eAt cs i).kind != track)=true by simp[hc],if_neg hc]
    simp only[br_t]
    exact ih (i+1) m out (by omega) ho (by omega)
theorem s_samples (n:Nat) (cs:List Eff) (M:Nat) (us:List T) (track:Int) (k:Nat) (hk:k≤100000) (hl:cs.length≤100) (hcl:∀ c∈cs,(0≤c.len∧c.len≤256)∧c.nums.length≤256) (hn:300<n) :
  f56 (n+1) cs.length (effs cs) M us track (k:Int)=some (k,fls .f32 (trackGo track 0 cs (List.replicate k 0))):=by
 have e:=s_samples_loop n track M us k hk cs hl hcl hn cs.length 0 n (List.replicate k 0) (by omega) (by simp) (by omega)
 have e:f56.l0 n n cs.length (effs cs) M us track (k:Int) k (fls .f32 (List.replicate k 0)) (cs.length:Int) 0=_:=e
 rw[f56,decide_eq_true (show (0:Int)≤(k:Int)∧(k:Int)≤2147483648 by omega),Int.toNat_natCast,reps_fls]
 simp only[gd_t,bd_s,e,List.drop_zero]
theorem i_state (n:Nat) {e:Ef} (h:e.Ok):f101 (n+2) e.eff.kind e.eff.len e.eff.nums.length (fls .f32 e.eff.nums)=some (e.keep,fls .f32 (newRow e)):=by
 rw[f101]
 cases e with
 | scale g=>rfl
 | filt a b c d f =>
   have hz:=i_zeroed n 2 (by omega)
   simp only[Ef.eff,beq_self_eq_true,br_t,br_f]
   show bd (f70 (n+1) ((2:Nat):Int)) _=_
   rw[hz];rfl
 | echo L p q =>
   have hL:1≤L∧L≤32:=h
   have hz:=i_zeroed n L (by omega)
   simp only[Ef.eff,show ((2:Int)==1)=false from rfl,beq_self_eq_true,br_t,br_f,hz,bd_s]
   rfl
 | squeeze a b c d =>
   have hz:=i_zeroed n 1 (by omega)
   simp only[Ef.eff,show ((3:Int)==1)=false from rfl,show ((3:Int)==2)=false from rfl,beq_self_eq_true,br_t,br_f]
   show bd (f70 (n+1) ((1:Nat):Int)) _=_
   rw[hz];rfl
 | clip g=>rfl
 | bend=>rfl
 | lim A k r =>
   have hA:A≤32∧W32 k∧_:=h
   have hz:=i_zeroed n A (by omega)
   have hb:Nat.ble (1+A) 2147483648=true:=by rw[Nat.ble_eq];omega
   simp only[Ef.eff,show ((6:Int)==1)=false from rfl,show ((6:Int)==2)=false from rfl,show ((6:Int)==3)=false from rfl,beq_self_eq_true,br_t,br_f,hz,bd_s,hb,gd_t]
   rw[Nat.add_comm 1 A]
   rfl
theorem i_new_loop (n:Nat) (N:Nat) (ts:List T) (es:List Ef) (hl:es.length≤100) (hok:∀ e∈es,e.Ok):∀ (j i m:Nat) (P:List (List Nat)),i+j=es.length→P.length≤i→j<m →
  f68.l0 (n+2) m N ts P.length (P.map rwF) es.length (effs (effL es)) (es.length:Int) (i:Int)=some ((P++(es.drop i).map newRow).length,(P++(es.drop i).map newRow).map rwF):=by
 intro j
 induction j with
 | zero =>
   intro i m P hi hP hm
   obtain ⟨m,rfl⟩:∃ k,m=k+1:=⟨m - 1,by omega⟩
   rw[f68.l0,nlt_dec (by omega),List.drop_eq_nil_of_le (by omega)]
   simp[br]
 | succ j ih =>
   intro i m P hi hP hm
   obtain ⟨m,rfl⟩:∃ k,m=k+1:=⟨m - 1,by omega⟩
   have h:i<es.length:=by omega
   have he:i<(effL es).length:=by rw[effL_length];exact h
   have hE:=hok _ (efAt_mem h)
   have hp:=push_rw P (newRow (efAt es i))
   rw[newRow_length] at hp
   have step:=ih (i+1) m (P++[newRow (efAt es i)]) (by omega) (by simp;omega) (by omega)
   rw[f68.l0,lt_dec h,in_dec h,Int.toNat_natCast,okE he,ef_drop h]
   simp only[br_t,Bool.and_self,gd_t,kE he,gE he,nE he,lE he,effL_at h,i_state n hE,bd_s,push_ok (show P.length<2147483648 by omega),hp,wrap_succ (show i<9223372036854775807 by omega)]
   rw[push_len (z:=newRow (efAt es i)),step]
   simp
theorem i_newstate (n:Nat) (es:List Ef) (hl:es.length≤100) (hok:∀ e∈es,e.Ok) (hn:200<n):f68 (n+3) es.length (effs (effL es))=some ((es.map newRow).length,(es.map newRow).map rwF):=by
 have e:=i_new_loop n es.length (effs (effL es)) es hl hok es.length 0 (n+2) [] (by omega) (by simp) (by omega)
 have e:f68.l0 (n+2) (n+2) es.length (effs (effL es)) 0 [] es.length (effs (effL es)) (es.length:Int) 0=_:=e
 rw[f68,e]
 simp only[bd_s,List.drop_zero,List.nil_append]
theorem s_newstate (n:Nat) (es:List Ef) (hl:es.length≤100) (hok:∀ e∈es,e.Ok) (hn:200<n):f54 (n+2) es.length (effs (effL es))=some ((es.map newRow).length,(es.map newRow).map rwF):=by
 have e:=s_new_loop n es hl hok es.length 0 (n+1) [] (by omega) (by simp) (by omega)
 have e:f54.l0 (n+1) (n+1) es.length (effs (effL es)) 0 (reps 0 [(T.lst 0 [])]) 0=_:=e
 rw[f54,e]
 simp only[bd_s,List.drop_zero,List.nil_append]
def chanM (es:List Ef) (track:Int) (cl:List Eff) (k:Nat):List Nat:=(chainGo es (es.map newRow) (trackGo track 0 cl (List.replicate k 0))).1
theorem allW_zeros (k:Nat):AllW (List.replicate k 0):=fun y hy=>by
 obtain ⟨-,rfl⟩:=List.mem_replicate.1 hy;exact w32_zero
theorem chan_facts {es:List Ef} (ho:∀ e∈es,e.Ok) (track:Int) (cl:List Eff) (k:Nat):(chanM es track cl k).length=k∧AllW (chanM es track cl k):=by
 obtain ⟨h1,-,h3⟩:=chain_fit es (es.map newRow) (trackGo track 0 cl (List.replicate k 0)) ho (new_ok es).fits (trackGo_w32 _ _ _ _ (allW_zeros k))
 exact ⟨by unfold chanM;rw[h3,trackGo_length,List.length_replicate],h1⟩
structure SOk (cl:List Eff) (ss:List Strp):Prop where
 n:1≤ss.length∧ss.length≤8
 c:cl.length≤12
 s:∀ s∈ss,chainB s.es=true∧(-2000≤s.tn∧s.tn≤2000)∧panB s.pan=true
 k:∀ c∈cl,(0≤c.kind∧c.kind≤(ss.length:Int) - 1)∧(0≤c.len∧c.len≤256)∧c.nums.length≤256
theorem sess_ok {cl:List Eff} {ss:List Strp} (h:sessB cl ss=true):SOk cl ss:=by
 unfold sessB at h
 simp only[Bool.and_eq_true,decide_eq_true_eq,List.all_eq_true] at h
 obtain ⟨h1,h2,h3,h4⟩:=h
 refine ⟨h1,h2,fun s hs => ?_,fun c hc => ?_⟩
 ·have:=h3 s hs
  unfold stB at this
  simp only[Bool.and_eq_true,decide_eq_true_eq] at this
  exact ⟨this.1,this.2.1,this.2.2⟩
 ·have:=h4 c hc
  unfold clB at this
  simp only[Bool.and_eq_true,decide_eq_true_eq] at this
  exact ⟨this.1,this.2.1,this.2.2⟩
structure GoodS (cl:List Eff) (ss:List Strp):Prop where
 c:∀ c∈cl,GoodE c
 s:∀ s∈ss,(∀ e∈s.es,GoodE e)∧GoodI .i64 s.tn∧W32 s.pan
theorem strip_efs {cl:List Eff} {ss:List Strp} (h:SOk cl ss) (hg:GoodS cl ss) {s:Strp} (hs:s∈ss):∃ es:List Ef,effL es=s.es∧(∀ e∈es,e.Ok)∧es.length≤8:=by
 have h1:=(h.s s hs).1
 unfold chainB at h1
 simp only[Bool.and_eq_true,decide_eq_true_eq] at h1
 obtain ⟨es,e1,e2⟩:=efs_of h1.2 (hg.s s hs).1
 exact ⟨es,e1,e2,by rw[← effL_length,e1];exact h1.1⟩
theorem i_channel (n:Nat) (hn:1000<n) {cl:List Eff} {ss:List Strp} (h:SOk cl ss) (i k:Nat) (hi:i<ss.length) (hk:k≤256) (es:List Ef) (he:effL es=(sAt5 ss i).es) (ho:∀ e∈es,e.Ok) (hl:es.length≤8) :
  f27 (n+104) cl.length (effs cl) ss.length (strps ss) (i:Int) (k:Int)=some (k,fls .f32 (chanM es (i:Int) cl k)):=by
 have hcl:∀ c∈cl,(0≤c.len∧c.len≤256)∧c.nums.length≤256:=fun c hc=>(h.k c hc).2
 have hc:=h.c
 have e1:=i_newstate (n+100) es (by omega) ho (by omega)
 have e1:f68 (n+103) es.length (effs (effL es))=_:=e1
 have e2:=i_samples (n+101) cl ss.length (strps ss) (i:Int) 0 k (by omega) (by omega) (by omega) hcl (by omega)
 have e2:f69 (n+103) cl.length (effs cl) ss.length (strps ss) (i:Int) 0 (k:Int)=_:=e2
 have e3:=i_runchain_ n (by omega) es (by omega) ho (es.map newRow) (new_ok es).fits (trackGo (i:Int) 0 cl (List.replicate k 0)) (trackGo_w32 _ _ _ _ (allW_zeros k)) (by rw[trackGo_length,List.length_replicate];exact hk)
 have hlen:=(chan_facts ho (i:Int) cl k).1
 rw[trackGo_length,List.length_replicate] at e3
 have hle:(sAt5 ss i).es.length=es.length:=by rw[← he,effL_length]
 rw[f27,in_dec hi,Int.toNat_natCast,okS5 hi]
 simp only[Bool.and_self,gd_t,nS5 hi,lS5 hi]
 rw[hle,← he]
 simp only[e1,e2,e3,bd_s]
 rw[show (chainGo es (es.map newRow) (trackGo (i:Int) 0 cl (List.replicate k 0))).1=chanM es (i:Int) cl k from rfl,hlen]
theorem copy_loop (n:Nat) (xs:List Nat) (hx:xs.length≤1048576):∀ (j i m:Nat) (ys:List Nat),ys.length=xs.length→i+j=xs.length→j<m →
  f114.l0 n m xs.length (fls .f32 xs) xs.length (fls .f32 (xs.take i++ys.drop i)) (i:Int)=some (xs.length,fls .f32 xs):=by
 intro j
 induction j with
 | zero =>
   intro i m ys hl hi hm
   obtain ⟨m,rfl⟩:∃ k,m=k+1:=⟨m - 1,by omega⟩
   rw[f114.l0,nlt_dec (by omega)]
   simp only[br]
   rw[List.take_of_length_le (by omega),List.drop_eq_nil_of_le (by omega),List.append_nil]
 | succ j ih =>
   intro i m ys hl hi hm
   obtain ⟨m,rfl⟩:∃ k,m=k+1:=⟨m - 1,by omega⟩
   have hlt:i<xs.length:=by omega
   rw[f114.l0,lt_dec hlt,in_dec hlt,Int.toNat_natCast,okAt_fls hlt,wrap_succ (by omega)]
   have hlen:Nat.ble (i+1) (fls .f32 (xs.take i++ys.drop i)).length=true:=by
    rw[Nat.ble_eq,fls_length];simp;omega
   rw[hlen]
   simp only[br,gd,Bool.and_self]
   rw[setN_one,fAt_fls,set_fls]
   have:xs.getD i 0=xs[i]:=by simp[List.getD,hlt]
   rw[this,take_set_drop hlt hl]
   exact ih (i+1) m ys hl (by omega) (by omega)
theorem copied (n:Nat) (xs:List Nat) (hx:xs.length≤1048576) (hn:xs.length<n):f114 (n+1) xs.length (fls .f32 xs)=some (xs.length,fls .f32 xs):=by
 rw[f114]
 have h:=copy_loop n xs hx xs.length 0 n (List.replicate xs.length 0) (by simp) (by omega) hn
 rw[List.take_zero,List.drop_zero,List.nil_append] at h
 have e:decide ((0:Int)≤((xs.length:Nat):Int)∧((xs.length:Nat):Int)≤(2147483648:Int))=true:=by simp;omega
 rw[reps_fls,e]
 simp only[gd]
 rw[show ((0:Nat):Int)=0 from rfl] at h
 rw[h];rfl
theorem same_self (n y:Nat):f49 (n+1) y y=some true:=by
 unfold f49
 simp only[fne_feq]
 cases h:feq FloatKind.f64 y y
 ·simp[br]
 ·cases h0:feq FloatKind.f64 y 0 <;>simp[br]
theorem eq_loop (n:Nat) (xs:List Nat) (hx:xs.length≤2147483648):∀ (j i m:Nat),i+j=xs.length→j<m →
  f17.l0 (n+1) m xs.length (fls .f32 xs) xs.length (fls .f32 xs) (i:Int)=some (Sum.inr ()):=by
 intro j
 induction j with
 | zero =>
   intro i m hi hm
   obtain ⟨m,rfl⟩:∃ k,m=k+1:=⟨m - 1,by omega⟩
   rw[f17.l0,nlt_dec (by omega)]
   rfl
 | succ j ih =>
   intro i m hi hm
   obtain ⟨m,rfl⟩:∃ k,m=k+1:=⟨m - 1,by omega⟩
   have hlt:i<xs.length:=by omega
   rw[f17.l0,lt_dec hlt,in_dec hlt,Int.toNat_natCast,okAt_fls hlt,wrap_succ (by omega),fltToFlt_wide]
   simp only[br,gd,bd,Bool.and_self,same_self,Bool.not_true]
   exact ih (i+1) m (by omega) (by omega)
theorem eq_self (n:Nat) (xs:List Nat) (hx:xs.length≤2147483648) (hn:xs.length<n+1):f17 (n+2) xs.length (fls .f32 xs) xs.length (fls .f32 xs)=some true:=by
 rw[f17]
 have h:=eq_loop n xs hx xs.length 0 (n+1) (by omega) hn
 rw[show ((0:Nat):Int)=0 from rfl] at h
 rw[h,show (((xs.length:Nat):Int) != ((xs.length:Nat):Int))=false by simp]
 rfl
theorem mark32_loop (n:Nat) (xs:List Nat) (hx:xs.length≤2147483648) (s:Int) (hs:0≤s) (hs':s≤1099511627776):∀ (j i m:Nat),i+j=xs.length→j<m →
  f20.l0 n m xs.length (fls .f32 ((marksF .f32 s xs.length).take i++xs.drop i)) (s+(i:Int)) (i:Int)=some (xs.length,fls .f32 (marksF .f32 s xs.length),s+(xs.length:Int)):=by
 intro j
 induction j with
 | zero =>
   intro i m hi hm
   obtain ⟨m,rfl⟩:∃ k,m=k+1:=⟨m - 1,by omega⟩
   have hi:i=xs.length:=by omega
   subst hi
   rw[f20.l0,nlt_dec (by omega)]
   simp only[br]
   rw[List.take_of_length_le (by rw[marksF_length];omega),List.drop_eq_nil_of_le (by omega),List.append_nil]
 | succ j ih =>
   intro i m hi hm
   obtain ⟨m,rfl⟩:∃ k,m=k+1:=⟨m - 1,by omega⟩
   have hlt:i<xs.length:=by omega
   have hlt':i<(marksF .f32 s xs.length).length:=by rw[marksF_length];exact hlt
   have hlen:Nat.ble (i+1) (fls .f32 ((marksF .f32 s xs.length).take i++xs.drop i)).length=true:=by
    apply le_ble
    rw[fls_length,List.length_append,List.length_take,List.length_drop,marksF_length];omega
   rw[f20.l0,lt_dec hlt,in_dec hlt,Int.toNat_natCast,wrap_succ (by omega),hlen]
   simp only[br,gd]
   rw[setN_one,set_fls,show IntKind.i64.wrap (s+(i:Int)+1)=s+((i+1:Nat):Int) by rw[wrap64] <;>omega,← marksF_at hlt',take_set_drop hlt' (by rw[marksF_length])]
   exact ih (i+1) m (by omega) (by omega)
theorem mark32 (n:Nat) (xs:List Nat) (hx:xs.length≤2147483648) (s:Int) (hs:0≤s) (hs':s≤1099511627776) (hn:xs.length<n) :
  f20 (n+1) xs.length (fls .f32 xs) s=some (s+(xs.length:Int),xs.length,fls .f32 (marksF .f32 s xs.length)):=by
 rw[f20]
 have h:=mark32_loop n xs hx s hs hs' xs.length 0 n (by omega) hn
 rw[List.take_zero,List.drop_zero,List.nil_append,show ((0:Nat):Int)=0 from rfl,Int.add_zero] at h
 rw[h];rfl
theorem held32_loop (n l:Nat) (hx:l≤2147483648) (s:Int) (hs:0≤s) (hs':s≤1099511627776):∀ (j i m:Nat),i+j=l→j<m →
  f21.l0 n m l (fls .f32 (marksF .f32 s l)) (s+(i:Int)) (i:Int)=some (Sum.inr (s+(l:Int))):=by
 intro j
 induction j with
 | zero =>
   intro i m hi hm
   obtain ⟨m,rfl⟩:∃ k,m=k+1:=⟨m - 1,by omega⟩
   have hi:i=l:=by omega
   subst hi
   rw[f21.l0,nlt_dec (by omega)]
   rfl
 | succ j ih =>
   intro i m hi hm
   obtain ⟨m,rfl⟩:∃ k,m=k+1:=⟨m - 1,by omega⟩
   have hlt:i<l:=by omega
   rw[f21.l0,lt_dec hlt,in_dec hlt,Int.toNat_natCast,wrap_succ (by omega),okAt_fls (by rw[marksF_length];exact hlt),fAt_fls,marksF_get hlt,nearest_fne,
    show IntKind.i64.wrap (s+(i:Int)+1)=s+((i+1:Nat):Int) by rw[wrap64] <;>omega]
   simp only[br,gd,Bool.and_self]
   exact ih (i+1) m (by omega) (by omega)
theorem held32 (n l:Nat) (hx:l≤2147483648) (s:Int) (hs:0≤s) (hs':s≤1099511627776) (hn:l<n) :
  f21 (n+1) l (fls .f32 (marksF .f32 s l)) s=some (s+(l:Int)):=by
 rw[f21]
 have h:=held32_loop n l hx s hs hs' l 0 n (by omega) hn
 rw[show ((0:Nat):Int)=0 from rfl,Int.add_zero] at h
 rw[h];rfl
theorem rows_set {α:Type} {f:α→List T} {w:Nat} (hf:∀ x,(f x).length=w) (d:α):∀ (ts:List α) (i c:Nat) (v:T) (y:α),i<ts.length→c<w→f y=(f (ts.getD i d)).set c v→(ts.flatMap f).set (i * w+c) v=(ts.set i y).flatMap f
 | [],i,c,v,y,h,_,_=>by simp at h
 | t::ts,0,c,v,y,_,hc,hy=>by
   simp only[List.flatMap_cons,List.set_cons_zero,Nat.zero_mul,Nat.zero_add]
   rw[List.set_append_left _ _ (by rw[hf];exact hc),hy];rfl
 | t::ts,i+1,c,v,y,h,hc,hy=>by
   simp only[List.flatMap_cons,List.set_cons_succ]
   have e:(i+1) * w+c=w+(i * w+c):=by rw[Nat.add_mul];omega
   rw[List.set_append_right _ _ (by rw[hf,e];omega),hf,show (i+1) * w+c - w=i * w+c by omega,rows_set hf d ts i c v y (by simpa using h) hc (by simpa using hy)]
theorem effC_length (e:Eff):(effC e).length=3:=rfl
theorem stC_length (s:Strp):(stC s).length=5:=rfl
theorem effs_length (ts:List Eff):(effs ts).length=3 * ts.length:=by
 unfold effs
 induction ts with
 | nil=>rfl
 | cons t ts ih=>rw[List.flatMap_cons,List.length_append,ih,effC_length,List.length_cons];omega
theorem strps_length (ts:List Strp):(strps ts).length=5 * ts.length:=by
 unfold strps
 induction ts with
 | nil=>rfl
 | cons t ts ih=>rw[List.flatMap_cons,List.length_append,ih,stC_length,List.length_cons];omega
theorem eff_row {ts:List Eff} {i:Nat} (h:i<ts.length) (e:Eff):setN (effs ts) (i * 3+0) [.int .i64 e.kind,.int .i64 e.len,.lst e.nums.length (fls .f32 e.nums)]=effs (ts.set i e):=by
 show (((effs ts).set (i * 3+0) _).set (i * 3+0+1) _).set (i * 3+0+1+1) _=_
 unfold effs
 rw[rows_set effC_length ⟨5,0,[]⟩ ts i 0 (.int .i64 e.kind) ⟨e.kind,(eAt ts i).len,(eAt ts i).nums⟩ h (by decide) rfl,
  show i * 3+0+1=i * 3+1 from rfl,rows_set effC_length ⟨5,0,[]⟩ _ i 1 (.int .i64 e.len) ⟨e.kind,e.len,(eAt ts i).nums⟩ (by simpa using h) (by decide) (by simp[List.getD,h];rfl),
  show i * 3+1+1=i * 3+2 from rfl,rows_set effC_length ⟨5,0,[]⟩ _ i 2 (.lst e.nums.length (fls .f32 e.nums)) e (by simpa using h) (by decide) (by simp[List.getD,h];rfl)]
 simp
theorem st_row {ts:List Strp} {i:Nat} (h:i<ts.length) (s:Strp):setN (strps ts) (i * 5+0) [.lst s.es.length (effs s.es),.int .i64 s.tn,.flt .f32 s.pan,.bool s.mute,.bool s.solo]=strps (ts.set i s):=by
 show (((((strps ts).set (i * 5+0) _).set (i * 5+0+1) _).set (i * 5+0+1+1) _).set (i * 5+0+1+1+1) _).set (i * 5+0+1+1+1+1) _=_
 unfold strps
 rw[rows_set stC_length ⟨[],0,0,false,false⟩ ts i 0 (.lst s.es.length (effs s.es)) ⟨s.es,(sAt5 ts i).tn,(sAt5 ts i).pan,(sAt5 ts i).mute,(sAt5 ts i).solo⟩ h (by decide) rfl,
  show i * 5+0+1=i * 5+1 from rfl,rows_set stC_length ⟨[],0,0,false,false⟩ _ i 1 (.int .i64 s.tn) ⟨s.es,s.tn,(sAt5 ts i).pan,(sAt5 ts i).mute,(sAt5 ts i).solo⟩ (by simpa using h) (by decide) (by simp[List.getD,h];rfl),
  show i * 5+1+1=i * 5+2 from rfl,rows_set stC_length ⟨[],0,0,false,false⟩ _ i 2 (.flt .f32 s.pan) ⟨s.es,s.tn,s.pan,(sAt5 ts i).mute,(sAt5 ts i).solo⟩ (by simpa using h) (by decide) (by simp[List.getD,h];rfl),
  show i * 5+2+1=i * 5+3 from rfl,rows_set stC_length ⟨[],0,0,false,false⟩ _ i 3 (.bool s.mute) ⟨s.es,s.tn,s.pan,s.mute,(sAt5 ts i).solo⟩ (by simpa using h) (by decide) (by simp[List.getD,h];rfl),
  show i * 5+3+1=i * 5+4 from rfl,rows_set stC_length ⟨[],0,0,false,false⟩ _ i 4 (.bool s.solo) s (by simpa using h) (by decide) (by simp[List.getD,h];rfl)]
 simp
theorem reps_effs (n:Nat):reps n [(T.int .i64 (0:Int)),(T.int .i64 (0:Int)),(T.lst 0 [])]=effs (List.replicate n ⟨0,0,[]⟩):=by
 induction n with
 | zero=>rfl
 | succ n ih=>rw[List.replicate_succ,show effs (⟨0,0,[]⟩::List.replicate n ⟨0,0,[]⟩)=effC ⟨0,0,[]⟩++effs (List.replicate n ⟨0,0,[]⟩) from rfl,← ih];rfl
theorem reps_strps (n:Nat):reps n [(T.lst 0 []),(T.int .i64 (0:Int)),(T.flt .f32 0),(T.bool false),(T.bool false)]=strps (List.replicate n ⟨[],0,0,false,false⟩):=by
 induction n with
 | zero=>rfl
 | succ n ih=>rw[List.replicate_succ,show strps (⟨[],0,0,false,false⟩::List.replicate n ⟨[],0,0,false,false⟩)=stC ⟨[],0,0,false,false⟩++strps (List.replicate n ⟨[],0,0,false,false⟩) from rfl,← ih];rfl
def szE:List Eff→Nat
 | []=>0
 | e::es=>1+e.nums.length+szE es
def szSt:List Strp→Nat
 | []=>0
 | s::ss=>1+szE s.es+szSt ss
theorem szE_len:∀ (es:List Eff),es.length≤szE es
 | []=>Nat.le_refl _
 | e::es=>by have:=szE_len es;simp only[List.length_cons,szE];omega
theorem szE_num:∀ (es:List Eff) (e:Eff),e∈es→e.nums.length≤szE es
 | e::es,f,h=>by
   rcases List.mem_cons.1 h with rfl | h
   ·simp only[szE];omega
   ·have:=szE_num es f h;simp only[szE];omega
theorem szSt_len:∀ (es:List Strp),es.length≤szSt es
 | []=>Nat.le_refl _
 | e::es=>by have:=szSt_len es;simp only[List.length_cons,szSt];omega
theorem szSt_es:∀ (es:List Strp) (s:Strp),s∈es→szE s.es≤szSt es
 | e::es,f,h=>by
   rcases List.mem_cons.1 h with rfl | h
   ·simp only[szSt];omega
   ·have:=szSt_es es f h;simp only[szSt];omega
def nmE:List Eff→Nat
 | []=>0
 | e::es=>e.nums.length+nmE es
theorem szE_nm:∀ (es:List Eff),szE es=es.length+nmE es
 | []=>rfl
 | e::es=>by rw[szE,szE_nm es,nmE,List.length_cons];omega
def nmSt:List Strp→Nat
 | []=>0
 | s::ss=>szE s.es+nmSt ss
theorem szSt_nm:∀ (es:List Strp),szSt es=es.length+nmSt es
 | []=>rfl
 | e::es=>by rw[szSt,szSt_nm es,nmSt,List.length_cons];omega
def leftM (left:Int) (k:Nat):Int:=if (k:Int)≤left then left - k else -1
theorem sz32 (n:Nat) (xs:List Nat) (hx:xs.length≤9223372036854775807) (left:Int) (h0:0≤left) (h1:left≤1048576):f109 (n+1) xs.length (fls .f32 xs) left=some (leftM left xs.length):=by
 rw[f109,show IntKind.i64.wrap (left - (xs.length:Int))=left - (xs.length:Int) by rw[wrap64] <;>omega]
 unfold leftM
 by_cases h:(xs.length:Int)≤left
 ·rw[decide_eq_false (by omega),if_pos h];rfl
 ·rw[decide_eq_true (by omega),if_neg h];rfl
theorem leftM_neg {left:Int} {k:Nat} (h0:0≤left):decide (leftM left k<0) = !decide ((k:Int)≤left):=by
 unfold leftM
 split
 ·rename_i h;rw[decide_eq_true h];exact decide_eq_false (by omega)
 ·rename_i h;rw[decide_eq_false h];rfl
def marksE:Int→List Eff→List Eff
 | _,[]=>[]
 | s,e::es=>⟨s,s+1,marksF .f32 (s+2) e.nums.length⟩::marksE (s+2+(e.nums.length:Int)) es
theorem marksE_length:∀ (es:List Eff) (s:Int),(marksE s es).length=es.length
 | [],_=>rfl
 | e::es,s=>by simp[marksE,marksE_length es]
theorem sz1_e (n:Nat) (e:Eff) (hx:e.nums.length≤9223372036854775807) (left:Int) (h0:0≤left) (h1:left≤1048576):f148 (n+2) e.kind e.len e.nums.length (fls .f32 e.nums) left=some (leftM left e.nums.length):=by
 rw[f148,sz32 n e.nums hx left h0 h1]
 simp only[bd_s,leftM_neg h0]
 by_cases h:(e.nums.length:Int)≤left
 ·rw[decide_eq_true h];rfl
 ·rw[decide_eq_false h];unfold leftM;rw[if_neg h];rfl
theorem szl_e (n:Nat) (es:List Eff) (hx:∀ e∈es,e.nums.length≤9223372036854775807) (hl:es.length≤1048576):∀ (j i m:Nat) (left:Int),0≤left→left≤1048576→i+j=es.length→j<m →
  f110.l0 (n+2) m es.length (effs es) left (i:Int)=some (if (nmE (es.drop i):Int)≤left then Sum.inr (left - (nmE (es.drop i):Int)) else Sum.inl (-1)):=by
 intro j
 induction j with
 | zero =>
   intro i m left h0 h1 hi hm
   obtain ⟨m,rfl⟩:∃ k,m=k+1:=⟨m - 1,by omega⟩
   rw[f110.l0,nlt_dec (by omega),List.drop_eq_nil_of_le (by omega)]
   simp[br,nmE,h0]
 | succ j ih =>
   intro i m left h0 h1 hi hm
   obtain ⟨m,rfl⟩:∃ k,m=k+1:=⟨m - 1,by omega⟩
   have h:i<es.length:=by omega
   have e1:=sz1_e n (eAt es i) (hx _ (eAt_mem h)) left h0 h1
   rw[f110.l0,lt_dec h,in_dec h,Int.toNat_natCast,okE h,eff_drop h,nmE]
   simp only[br_t,Bool.and_self,gd_t,kE h,gE h,nE h,lE h,e1,bd_s,leftM_neg h0,wrap_succ (show i<9223372036854775807 by omega)]
   by_cases hc:((eAt es i).nums.length:Int)≤left
   ·rw[decide_eq_true hc]
    simp only[Bool.not_true,br_f]
    have hL:leftM left (eAt es i).nums.length=left - ((eAt es i).nums.length:Int):=by unfold leftM;rw[if_pos hc]
    rw[hL,ih (i+1) m _ (by omega) (by omega) (by omega) (by omega)]
    congr 1
    by_cases h2:(nmE (es.drop (i+1)):Int)≤left - ((eAt es i).nums.length:Int)
    ·rw[if_pos h2,if_pos (by omega)];congr 1;omega
    ·rw[if_neg h2,if_neg (by omega)]
   ·rw[decide_eq_false hc,if_neg (by omega)];rfl
theorem szs_e (n:Nat) (es:List Eff) (hx:∀ e∈es,e.nums.length≤9223372036854775807) (hx2:es.length≤9223372036854775807) (left:Int) (h0:0≤left) (h1:left≤1048576) (hn:1048577<n) :
  f110 (n+3) es.length (effs es) left=some (leftM left (szE es)):=by
 rw[f110,show IntKind.i64.wrap (left - (es.length:Int))=left - (es.length:Int) by rw[wrap64] <;>omega,szE_nm]
 unfold leftM
 by_cases h:(es.length:Int)≤left
 ·have e:=szl_e n es hx (by omega) es.length 0 (n+2) (left - (es.length:Int)) (by omega) (by omega) (by omega) (by omega)
  have e:f110.l0 (n+2) (n+2) es.length (effs es) (left - (es.length:Int)) 0=_:=e
  rw[decide_eq_false (by omega),e,List.drop_zero]
  by_cases h2:(nmE es:Int)≤left - (es.length:Int)
  ·rw[if_pos h2,if_pos (by omega)]
   simp only[br_f,bd_s,sm_r]
   congr 1;omega
  ·rw[if_neg h2,if_neg (by omega)];rfl
 ·rw[decide_eq_true (by omega),if_neg (by omega)];rfl
theorem to1_e (n:Nat) (e:Eff) (hx:e.nums.length≤1048576) (hn:1048576<n):f150 (n+2) e.kind e.len e.nums.length (fls .f32 e.nums)=some (e.kind,e.len,e.nums.length,fls .f32 e.nums):=by
 rw[f150,copied n e.nums hx (by omega)];rfl
theorem tol_e (n:Nat) (es:List Eff) (hx:∀ e∈es,e.nums.length≤1048576) (hl:es.length≤1048576) (hn:1048576<n):∀ (j i m:Nat) (ys:List Eff),ys.length=es.length→i+j=es.length→j<m →
  f115.l0 (n+2) m es.length (effs es) es.length (effs (es.take i++ys.drop i)) (i:Int)=some (es.length,effs es):=by
 intro j
 induction j with
 | zero =>
   intro i m ys hy hi hm
   obtain ⟨m,rfl⟩:∃ k,m=k+1:=⟨m - 1,by omega⟩
   rw[f115.l0,nlt_dec (by omega),List.take_of_length_le (by omega),List.drop_eq_nil_of_le (by omega),List.append_nil];rfl
 | succ j ih =>
   intro i m ys hy hi hm
   obtain ⟨m,rfl⟩:∃ k,m=k+1:=⟨m - 1,by omega⟩
   have h:i<es.length:=by omega
   have hlen:(es.take i++ys.drop i).length=es.length:=by rw[List.length_append,List.length_take,List.length_drop];omega
   have h':i<(es.take i++ys.drop i).length:=by omega
   have hb:Nat.ble (i * 3+0+3) (effs (es.take i++ys.drop i)).length=true:=by rw[effs_length,hlen];exact le_ble (by omega)
   have hset:(es.take i++ys.drop i).set i (eAt es i)=es.take (i+1)++ys.drop (i+1):=by
    have:eAt es i=es[i]:=by simp[eAt,List.getD,h]
    rw[this];exact take_set_drop h hy
   rw[f115.l0,lt_dec h,in_dec h,Int.toNat_natCast,okE h]
   simp only[br_t,Bool.and_self,gd_t,kE h,gE h,nE h,lE h,to1_e n (eAt es i) (hx _ (eAt_mem h)) hn,bd_s,hb,eff_row h' (eAt es i),hset,wrap_succ (show i<9223372036854775807 by omega)]
   exact ih (i+1) m ys hy (by omega) (by omega)
theorem tos_e (n:Nat) (es:List Eff) (hx:∀ e∈es,e.nums.length≤1048576) (hl:es.length≤1048576) (hn:1048576<n):f115 (n+3) es.length (effs es)=some (es.length,effs es):=by
 have e:=tol_e n es hx hl hn es.length 0 (n+2) (List.replicate es.length ⟨0,0,[]⟩) (by simp) (by omega) (by omega)
 rw[List.take_zero,List.drop_zero,List.nil_append] at e
 have e:f115.l0 (n+2) (n+2) es.length (effs es) es.length (effs (List.replicate es.length ⟨0,0,[]⟩)) 0=_:=e
 rw[f115,decide_eq_true (show (0:Int)≤(es.length:Int)∧(es.length:Int)≤2147483648 by omega),reps_effs]
 simp only[gd_t,e,bd_s]
theorem eq1_e (n:Nat) (e:Eff) (hx:e.nums.length≤1048576) (hn:1048576<n):f151 (n+3) e.kind e.len e.nums.length (fls .f32 e.nums) e.kind e.len e.nums.length (fls .f32 e.nums)=some true:=by
 rw[f151,eq_self n e.nums (by omega) (by omega)]
 simp only[bne_self_eq_false,br_f,bd_s,Bool.not_true]
theorem eql_e (n:Nat) (es:List Eff) (hx:∀ e∈es,e.nums.length≤1048576) (hl:es.length≤1048576) (hn:1048576<n):∀ (j i m:Nat),i+j=es.length→j<m →
  f116.l0 (n+3) m es.length (effs es) es.length (effs es) (i:Int)=some (Sum.inr ()):=by
 intro j
 induction j with
 | zero =>
   intro i m hi hm
   obtain ⟨m,rfl⟩:∃ k,m=k+1:=⟨m - 1,by omega⟩
   rw[f116.l0,nlt_dec (by omega)];rfl
 | succ j ih =>
   intro i m hi hm
   obtain ⟨m,rfl⟩:∃ k,m=k+1:=⟨m - 1,by omega⟩
   have h:i<es.length:=by omega
   rw[f116.l0,lt_dec h,in_dec h,Int.toNat_natCast,okE h]
   simp only[br_t,Bool.and_self,gd_t,kE h,gE h,nE h,lE h,eq1_e n (eAt es i) (hx _ (eAt_mem h)) hn,bd_s,Bool.not_true,br_f,wrap_succ (show i<9223372036854775807 by omega)]
   exact ih (i+1) m (by omega) (by omega)
theorem eqs_e (n:Nat) (es:List Eff) (hx:∀ e∈es,e.nums.length≤1048576) (hl:es.length≤1048576) (hn:1048576<n):f116 (n+4) es.length (effs es) es.length (effs es)=some true:=by
 have e:=eql_e n es hx hl hn es.length 0 (n+3) (by omega) (by omega)
 have e:f116.l0 (n+3) (n+3) es.length (effs es) es.length (effs es) 0=_:=e
 rw[f116]
 simp only[bne_self_eq_false,br_f,e,bd_s,sm_r]
end Go.Proofs.YtokonabdnlckdaaGreat.D
end
