/- FnExactFreezeTrack holds: for every input the law returns true, and its arguments read as before. -/
import Derived.Test.YtdobhipbgpiceaaGreatChecked
import Derived.KernelRfl
import Derived.Shelf.SlicesE.Kit
import Derived.Shelf.RegionOpenPlain
import Derived.WalkKit
import Derived.Deep.LoopGhost
import Derived.Deep.RegionLaw
import Derived.Deep.MidRow
import Derived.Lib.Walk
import Derived.Sort.WalkB12
import Derived.Lib.SliceRun
import Derived.Lib.SlicesDelete
import Derived.Lib.SlicesMore
import Derived.Lib.SlicesCompact
import Derived.Test.YtdobhipbgpiceaaGreatRows
import Derived.ProofKit
import Derived.OpenShut
import Derived.ShutString
import Derived.ChangeOld
import Derived.Below
import Derived.SizedLaws
import Derived.Test.YtdobhipbgpiceaaGreatKernC
import Derived.Test.YtdobhipbgpiceaaGreatM4a
set_option linter.all false
set_option linter.unusedVariables false
noncomputable section
namespace Go.Proofs.YtdobhipbgpiceaaGreat.D
open Go Go.Desk
def f104:Nat→Int→Int→Nat→List T→Nat→List T→Nat→List T→Option (Nat × List T × Nat × List T)
 | 0,_,_,_,_,_,_,_,_=>none
 | n+1,i1,i2,n3,l4,n5,l6,n7,l8 =>
   br (i1==(0:Int)) (
    gd ((decide ((0≤(0:Int))∧((0:Int)<(n3:Int))))&&(okAt [(CK.flt .f32)] l4 0)) (
    bd (f122 n n7 l8 (fAt l4 0)) fun r9 =>
    let n10:=r9.1
    let l11:=r9.2
    some (n10,l11,0,(reps 0 [(T.flt .f32 0)])))) (
    br (i1==(1:Int)) (
     gd ((decide ((0≤(0:Int))∧((0:Int)<(n3:Int))))&&(okAt [(CK.flt .f32)] l4 0)) (
     gd ((decide ((0≤(1:Int))∧((1:Int)<(n3:Int))))&&(okAt [(CK.flt .f32)] l4 1)) (
     gd ((decide ((0≤(2:Int))∧((2:Int)<(n3:Int))))&&(okAt [(CK.flt .f32)] l4 2)) (
     gd ((decide ((0≤(3:Int))∧((3:Int)<(n3:Int))))&&(okAt [(CK.flt .f32)] l4 3)) (
     gd ((decide ((0≤(4:Int))∧((4:Int)<(n3:Int))))&&(okAt [(CK.flt .f32)] l4 4)) (
     let x12:=(fAt l4 0)
     let x13:=(fAt l4 1)
     let x14:=(fAt l4 2)
     let x15:=(fAt l4 3)
     let x16:=(fAt l4 4)
     gd ((decide ((0≤(0:Int))∧((0:Int)<(n5:Int))))&&(okAt [(CK.flt .f32)] l6 0)) (
     gd ((decide ((0≤(1:Int))∧((1:Int)<(n5:Int))))&&(okAt [(CK.flt .f32)] l6 1)) (
     bd (f123 n x12 x13 x14 x15 x16 (1:Int) true (fAt l6 0) (fAt l6 1) 0 0 n7 l8) fun r17 =>
     let n18:=r17.1
     let l19:=r17.2.1
     let x20:=r17.2.2.1
     let x21:=r17.2.2.2.1
     some (n18,l19,2,(setN (setN (reps 2 [(T.flt .f32 0)]) 0 [(T.flt .f32 x20)]) 1 [(T.flt .f32 x21)])))))))))) (
     br (i1==(2:Int)) (
      gd (Nat.ble (0+n5) 2147483648) (
      let n24:=(0+n5)
      let l25:=((reps 0 [(T.flt .f32 0)])++l6)
      bd (f104.l0 n n n7 l8 n3 l4 n24 l25 0 (reps 0 [(T.flt .f32 0)]) (0:Int)) fun r26 =>
      let n27:=r26.1
      let l28:=r26.2.1
      let n29:=r26.2.2.1
      let l30:=r26.2.2.2
      some (n29,l30,n27,l28))) (
      br (i1==(3:Int)) (
       gd ((decide ((0≤(0:Int))∧((0:Int)<(n3:Int))))&&(okAt [(CK.flt .f32)] l4 0)) (
       gd ((decide ((0≤(1:Int))∧((1:Int)<(n3:Int))))&&(okAt [(CK.flt .f32)] l4 1)) (
       gd ((decide ((0≤(0:Int))∧((0:Int)<(n5:Int))))&&(okAt [(CK.flt .f32)] l6 0)) (
       gd ((decide ((0≤(2:Int))∧((2:Int)<(n3:Int))))&&(okAt [(CK.flt .f32)] l4 2)) (
       gd ((decide ((0≤(3:Int))∧((3:Int)<(n3:Int))))&&(okAt [(CK.flt .f32)] l4 3)) (
       let x31:=(fAt l4 0)
       let x32:=(fAt l4 1)
       let x33:=(fAt l6 0)
       let x34:=(fAt l4 2)
       let x35:=(fAt l4 3)
       bd (f125 n x31 x32 x33 x34 x35 n7 l8 n7 l8) fun r36 =>
       let n37:=r36.1
       let l38:=r36.2.1
       let x41:=r36.2.2.2.2.1
       some (n37,l38,1,(setN (reps 1 [(T.flt .f32 0)]) 0 [(T.flt .f32 x41)])))))))) (
       br (i1==(4:Int)) (
        gd ((decide ((0≤(0:Int))∧((0:Int)<(n3:Int))))&&(okAt [(CK.flt .f32)] l4 0)) (
        bd (f126 n n7 l8 (fAt l4 0)) fun r44 =>
        let n45:=r44.1
        let l46:=r44.2.1
        some (n45,l46,0,(reps 0 [(T.flt .f32 0)])))) (
        br (i1==(5:Int)) (
         bd (f104.l1 n n n7 l8 0 (reps 0 [(T.flt .f32 0)]) (0:Int)) fun r48 =>
         let n49:=r48.1
         let l50:=r48.2
         some (n49,l50,0,(reps 0 [(T.flt .f32 0)]))) (
         gd ((decide ((0≤(0:Int))∧((0:Int)<(n3:Int))))&&(okAt [(CK.flt .f32)] l4 0)) (
         gd ((decide ((0≤(1:Int))∧((1:Int)<(n3:Int))))&&(okAt [(CK.flt .f32)] l4 1)) (
         gd ((decide ((0≤(0:Int))∧((0:Int)<(n5:Int))))&&(okAt [(CK.flt .f32)] l6 0)) (
         gd (decide ((0≤(1:Int))∧(((1:Int)≤(n5:Int))∧((n5:Int)≤(n5:Int))))) (
         let x51:=(fAt l4 0)
         let x52:=(fAt l4 1)
         let x53:=(fAt l6 0)
         let n54:=(n5 - 1)
         let l55:=(List.take (n5 - 1) (List.drop 1 l6))
         bd (f128 n x51 x52 x53 n54 l55 n7 l8) fun r56 =>
         let n57:=r56.1
         let l58:=r56.2.1
         let x61:=r56.2.2.2.2.1
         let n62:=r56.2.2.2.2.2.1
         let l63:=r56.2.2.2.2.2.2.1
         gd (Nat.ble (1+n62) 2147483648) (
         some (n57,l58,(1+n62),((setN (reps 1 [(T.flt .f32 0)]) 0 [(T.flt .f32 x61)])++l63)))))))))))))
def sg_iilll:Sig (Int × Int × Nat × List T × Nat × List T × Nat × List T) where
 pk:=fun v=>[.int v.1,.int v.2.1,.lst v.2.2.1 v.2.2.2.1,.lst v.2.2.2.2.1 v.2.2.2.2.2.1,.lst v.2.2.2.2.2.2.1 v.2.2.2.2.2.2.2]
 up:=fun ls=>match ls with
  | [.int a0,.int a1,.lst a2 a3,.lst a4 a5,.lst a6 a7]=>some (a0,a1,a2,a3,a4,a5,a6,a7)
  | _=>none
 ok:=by intro _ _ h;split at h <;>cases h;rfl
def sg_lllli:Sig (Nat × List T × Nat × List T × Nat × List T × Nat × List T × Int) where
 pk:=fun v=>[.lst v.1 v.2.1,.lst v.2.2.1 v.2.2.2.1,.lst v.2.2.2.2.1 v.2.2.2.2.2.1,.lst v.2.2.2.2.2.2.1 v.2.2.2.2.2.2.2.1,.int v.2.2.2.2.2.2.2.2]
 up:=fun ls=>match ls with
  | [.lst a0 a1,.lst a2 a3,.lst a4 a5,.lst a6 a7,.int a8]=>some (a0,a1,a2,a3,a4,a5,a6,a7,a8)
  | _=>none
 ok:=by intro _ _ h;split at h <;>cases h;rfl
def f104.l0.P:AS:=⟨[(2,qS38),(8,qS38),(12,qS39),(13,qS39),(14,qS40)],0⟩
def f104.l0.A:Alt (Nat × List T × Nat × List T):=.one (.exit 1) ⟨[(12,qS39),(13,qS39)],0⟩ sg_ll
def f104.l0.F (n m:Nat) (v:Nat × List T × Nat × List T × Nat × List T × Nat × List T × Int):=f104.l0 n m v.1 v.2.1 v.2.2.1 v.2.2.2.1 v.2.2.2.2.1 v.2.2.2.2.2.1 v.2.2.2.2.2.2.1 v.2.2.2.2.2.2.2.1 v.2.2.2.2.2.2.2.2
def f104.l0.W (n:Nat):LpW:=.of 208 f104.l0.P sg_lllli f104.l0.A (f104.l0.F n n)
def f104.l1.P:AS:=⟨[(2,qS38),(21,qS39),(22,qS40)],0⟩
def f104.l1.A:Alt (Nat × List T):=.one (.exit 3) ⟨[(21,qS39)],0⟩ sg_l
def f104.l1.F (n m:Nat) (v:Nat × List T × Nat × List T × Int):=f104.l1 n m v.1 v.2.1 v.2.2.1 v.2.2.2.1 v.2.2.2.2
def f104.l1.W (n:Nat):LpW:=.of 464 f104.l1.P sg_lli f104.l1.A (f104.l1.F n n)
def f104.P:List Arg:=[qA28,qA19,qA19]
def f104.A:RAlt (Nat × List T × Nat × List T):=.one ⟨[qV15,qV15],[none,none,none]⟩ sg_ll
def f104.F (n:Nat) (v:Int × Int × Nat × List T × Nat × List T × Nat × List T):=f104 n v.1 v.2.1 v.2.2.1 v.2.2.2.1 v.2.2.2.2.1 v.2.2.2.2.2.1 v.2.2.2.2.2.2.1 v.2.2.2.2.2.2.2
def f104.O (n:Nat):Orc:=orcOf (E:=E) [f122.w,f124.w,f123.w,f125.w,f126.w,f127.w,f128.w] [f104.l0.W n,f104.l1.W n] n
theorem f104.l0.ok:∀ n,LpS 104 c104 0 n (f104.O n):=lpS f104.l0.P sg_lllli f104.l0.A f104.l0.F
theorem f104.l1.ok:∀ n,LpS 104 c104 1 n (f104.O n):=lpS f104.l1.P sg_lli f104.l1.A f104.l1.F
theorem f104.ok:FnS 104 f104.P sg_iilll f104.A f104.F:=fnS c104 f104.O [loopAt c104 0,loopAt c104 1] (fun n=>(.cons (f104.l0.ok n) (.cons (f104.l1.ok n) .nil)))
def f104.w:FnW E:=fnW 104 f104.P sg_iilll f104.A f104.F f104.ok
def f66.l0 (n:Nat):Nat→Nat→List T→Nat→List T→Nat→List T→Nat→List T→Int→Option (Nat × List T × Nat × List T)
 | 0,_,_,_,_,_,_,_,_,_=>none
 | m+1,n1,l2,n3,l4,n5,l6,n7,l8,i9 =>
   br (decide (i9<(n1:Int))) (
    gd ((decide ((0≤i9)∧(i9<(n1:Int))))&&(okAt [(CK.int .i64),(CK.int .i64),CK.lst] l2 (((Int.toNat i9) * 3)+0))) (
    gd ((decide ((0≤i9)∧(i9<(n3:Int))))&&(okAt [CK.lst] l4 (Int.toNat i9))) (
    bd (f104 n (iAt l2 (((Int.toNat i9) * 3)+0)) (iAt l2 ((((Int.toNat i9) * 3)+0)+1)) (nAt l2 (((((Int.toNat i9) * 3)+0)+1)+1)) (lAt l2 (((((Int.toNat i9) * 3)+0)+1)+1)) (nAt l4 (Int.toNat i9)) (lAt l4 (Int.toNat i9)) n5 l6) fun r10 =>
    let n11:=r10.1
    let l12:=r10.2.1
    let n13:=r10.2.2.1
    let l14:=r10.2.2.2
    gd (Nat.ble (n7+1) 2147483648) (
    let n15:=(n7+1)
    let l16:=(l8++(setN (reps 1 [(T.lst 0 [])]) 0 [(T.lst n13 l14)]))
    f66.l0 n m n1 l2 n3 l4 n11 l12 n15 l16 (IntKind.i64.wrap (i9+(1:Int))))))) (
    some (n5,l6,n7,l8))
def f66:Nat→Nat→List T→Nat→List T→Nat→List T→Option (Nat × List T × Nat × List T)
 | 0,_,_,_,_,_,_=>none
 | n+1,n1,l2,n3,l4,n5,l6 =>
   gd (Nat.ble (0+n5) 2147483648) (
   let n7:=(0+n5)
   let l8:=((reps 0 [(T.flt .f32 0)])++l6)
   bd (f66.l0 n n n1 l2 n3 l4 n7 l8 0 (reps 0 [(T.lst 0 [])]) (0:Int)) fun r9 =>
   let n10:=r9.1
   let l11:=r9.2.1
   let n12:=r9.2.2.1
   let l13:=r9.2.2.2
   some (n10,l11,n12,l13))
def sg_lll:Sig (Nat × List T × Nat × List T × Nat × List T) where
 pk:=fun v=>[.lst v.1 v.2.1,.lst v.2.2.1 v.2.2.2.1,.lst v.2.2.2.2.1 v.2.2.2.2.2]
 up:=fun ls=>match ls with
  | [.lst a0 a1,.lst a2 a3,.lst a4 a5]=>some (a0,a1,a2,a3,a4,a5)
  | _=>none
 ok:=by intro _ _ h;split at h <;>cases h;rfl
def f66.l0.P:AS:=⟨[(0,qS34),(1,.val false [.sl .shr [.sl .shr [.leaf]]] [.lst 0 []] [] 0),(8,qS39),(9,qS37),(10,qS40)],0⟩
def f66.l0.A:Alt (Nat × List T × Nat × List T):=.one (.exit 0) ⟨[(8,qS39),(9,qS37)],0⟩ sg_ll
def f66.l0.F (n m:Nat) (v:Nat × List T × Nat × List T × Nat × List T × Nat × List T × Int):=f66.l0 n m v.1 v.2.1 v.2.2.1 v.2.2.2.1 v.2.2.2.2.1 v.2.2.2.2.2.1 v.2.2.2.2.2.2.1 v.2.2.2.2.2.2.2.1 v.2.2.2.2.2.2.2.2
def f66.l0.W (n:Nat):LpW:=.of 64 f66.l0.P sg_lllli f66.l0.A (f66.l0.F n n)
def f66.P:List Arg:=[qA21,⟨.val,⟨false,[.sl .shr [.sl .shr [.leaf]]],[.lst 0 []]⟩⟩,qA19]
def f66.A:RAlt (Nat × List T × Nat × List T):=.one ⟨[qV15,qV13],[none,none,none]⟩ sg_ll
def f66.F (n:Nat) (v:Nat × List T × Nat × List T × Nat × List T):=f66 n v.1 v.2.1 v.2.2.1 v.2.2.2.1 v.2.2.2.2.1 v.2.2.2.2.2
def f66.O (n:Nat):Orc:=orcOf (E:=E) [f104.w] [f66.l0.W n] n
theorem f66.l0.ok:∀ n,LpS 66 c66 0 n (f66.O n):=lpS f66.l0.P sg_lllli f66.l0.A f66.l0.F
theorem f66.ok:FnS 66 f66.P sg_lll f66.A f66.F:=fnS c66 f66.O [loopAt c66 0] (fun n=>(.cons (f66.l0.ok n) .nil))
def f66.w:FnW E:=fnW 66 f66.P sg_lll f66.A f66.F f66.ok
def f30:Nat→Nat→List T→Nat→List T→Int→Int→Option (Nat × List T)
 | 0,_,_,_,_,_,_=>none
 | n+1,n1,l2,n3,l4,i5,i6 =>
   gd ((decide ((0≤i5)∧(i5<(n3:Int))))&&(okAt [CK.lst,(CK.int .i64),(CK.flt .f32),CK.bool,CK.bool] l4 (((Int.toNat i5) * 5)+0))) (
   let n7:=(nAt l4 (((Int.toNat i5) * 5)+0))
   let l8:=(lAt l4 (((Int.toNat i5) * 5)+0))
   bd (f67 n n7 l8) fun r9 =>
   let n10:=r9.1
   let l11:=r9.2
   bd (f68 n n1 l2 n3 l4 i5 i6) fun r12 =>
   let n13:=r12.1
   let l14:=r12.2
   bd (f66 n n7 l8 n10 l11 n13 l14) fun r15 =>
   let n16:=r15.1
   let l17:=r15.2.1
   some (n16,l17))
def f30.P:List Arg:=[qA29,qA20,qA20]
def f30.A:RAlt (Nat × List T):=.one ⟨[qV15],[none,none,none]⟩ sg_l
def f30.F (n:Nat) (v:Nat × List T × Nat × List T × Int × Int):=f30 n v.1 v.2.1 v.2.2.1 v.2.2.2.1 v.2.2.2.2.1 v.2.2.2.2.2
def f30.O (n:Nat):Orc:=orcOf (E:=E) [f67.w,f68.w,f66.w] [] n
theorem f30.ok:FnS 30 f30.P sg_llii f30.A f30.F:=fnS c30 f30.O
def f30.w:FnW E:=fnW 30 f30.P sg_llii f30.A f30.F f30.ok
def f15:Nat→Nat→List T→Nat→List T→Int→Int→Option (Nat × List T × Nat × List T × Bool)
 | 0,_,_,_,_,_,_=>none
 | n+1,n1,l2,n3,l4,i5,i6 =>
   bd (f27 n n1 l2 n3 l4) fun r7 =>
   let b8:=r7
   br (!b8) (
    some (0,[],0,[],false)) (
    bd (f28 n i5 (0:Int) (IntKind.i64.wrap ((n3:Int) - (1:Int)))) fun r9 =>
    let b10:=r9
    br (!b10) (
     some (0,[],0,[],false)) (
     bd (f29 n i6) fun r11 =>
     let b12:=r11
     br (!b12) (
      some (0,[],0,[],false)) (
      bd (f40 n n1 l2 n3 l4) fun r13 =>
      let n16:=r13.2.2.1
      let l17:=r13.2.2.2
      bd (f15.l0 n n i5 i6 n1 l2 n3 l4 0 [] 0 [] 0 (reps 0 [(T.int .i64 (0:Int)),(T.int .i64 (0:Int)),(T.lst 0 [])]) n16 l17 (n1:Int) (0:Int)) fun r18 =>
      let i19:=r18.1
      let i20:=r18.2.1
      let n21:=r18.2.2.1
      let l22:=r18.2.2.2.1
      let n23:=r18.2.2.2.2.1
      let l24:=r18.2.2.2.2.2.1
      let n29:=r18.2.2.2.2.2.2.2.2.2.2.1
      let l30:=r18.2.2.2.2.2.2.2.2.2.2.2.1
      let n31:=r18.2.2.2.2.2.2.2.2.2.2.2.2.1
      let l32:=r18.2.2.2.2.2.2.2.2.2.2.2.2.2
      bd (f30 n n21 l22 n23 l24 i19 i20) fun r33 =>
      let n34:=r33.1
      let l35:=r33.2
      gd (Nat.ble (n29+1) 2147483648) (
      let n36:=(n29+1)
      let l37:=(l30++(setN (reps 1 [(T.int .i64 (0:Int)),(T.int .i64 (0:Int)),(T.lst 0 [])]) 0 (setN (setN [(T.int .i64 (0:Int)),(T.int .i64 (0:Int)),(T.lst 0 [])] 0 [(T.int .i64 i19)]) 2 [(T.lst n34 l35)])))
      gd (decide ((0≤i19)∧(i19<(n31:Int)))) (
      gd (Nat.ble ((((Int.toNat i19) * 5)+0)+1) (List.length l32)) (
      let l38:=(setN l32 (((Int.toNat i19) * 5)+0) [(T.lst 0 (reps 0 [(T.int .i64 (0:Int)),(T.int .i64 (0:Int)),(T.lst 0 [])]))])
      bd (f27 n n36 l37 n31 l38) fun r39 =>
      let b40:=r39
      br (!b40) (
       some (0,[],0,[],false)) (
       some (n36,l37,n31,l38,true))))))))
def sg_llb:Sig (Nat × List T × Nat × List T × Bool) where
 pk:=fun v=>[.lst v.1 v.2.1,.lst v.2.2.1 v.2.2.2.1,.bool v.2.2.2.2]
 up:=fun ls=>match ls with
  | [.lst a0 a1,.lst a2 a3,.bool a4]=>some (a0,a1,a2,a3,a4)
  | _=>none
 ok:=by intro _ _ h;split at h <;>cases h;rfl
def sg_iillllllii:Sig (Int × Int × Nat × List T × Nat × List T × Nat × List T × Nat × List T × Nat × List T × Nat × List T × Int × Int) where
 pk:=fun v=>[.int v.1,.int v.2.1,.lst v.2.2.1 v.2.2.2.1,.lst v.2.2.2.2.1 v.2.2.2.2.2.1,.lst v.2.2.2.2.2.2.1 v.2.2.2.2.2.2.2.1,.lst v.2.2.2.2.2.2.2.2.1 v.2.2.2.2.2.2.2.2.2.1,.lst v.2.2.2.2.2.2.2.2.2.2.1 v.2.2.2.2.2.2.2.2.2.2.2.1,.lst v.2.2.2.2.2.2.2.2.2.2.2.2.1 v.2.2.2.2.2.2.2.2.2.2.2.2.2.1,.int v.2.2.2.2.2.2.2.2.2.2.2.2.2.2.1,.int v.2.2.2.2.2.2.2.2.2.2.2.2.2.2.2]
 up:=fun ls=>match ls with
  | [.int a0,.int a1,.lst a2 a3,.lst a4 a5,.lst a6 a7,.lst a8 a9,.lst a10 a11,.lst a12 a13,.int a14,.int a15]=>some (a0,a1,a2,a3,a4,a5,a6,a7,a8,a9,a10,a11,a12,a13,a14,a15)
  | _=>none
 ok:=by intro _ _ h;split at h <;>cases h;rfl
def sg_iillllll:Sig (Int × Int × Nat × List T × Nat × List T × Nat × List T × Nat × List T × Nat × List T × Nat × List T) where
 pk:=fun v=>[.int v.1,.int v.2.1,.lst v.2.2.1 v.2.2.2.1,.lst v.2.2.2.2.1 v.2.2.2.2.2.1,.lst v.2.2.2.2.2.2.1 v.2.2.2.2.2.2.2.1,.lst v.2.2.2.2.2.2.2.2.1 v.2.2.2.2.2.2.2.2.2.1,.lst v.2.2.2.2.2.2.2.2.2.2.1 v.2.2.2.2.2.2.2.2.2.2.2.1,.lst v.2.2.2.2.2.2.2.2.2.2.2.2.1 v.2.2.2.2.2.2.2.2.2.2.2.2.2]
 up:=fun ls=>match ls with
  | [.int a0,.int a1,.lst a2 a3,.lst a4 a5,.lst a6 a7,.lst a8 a9,.lst a10 a11,.lst a12 a13]=>some (a0,a1,a2,a3,a4,a5,a6,a7,a8,a9,a10,a11,a12,a13)
  | _=>none
 ok:=by intro _ _ h;split at h <;>cases h;rfl
def f15.l0.P:AS:=⟨[(1,qS40),(2,qS40),(3,.box [.sl .shr [.leaf,.leaf,.sl .shr [.leaf]],.sl .shr [.sl .shr [.leaf,.leaf,.sl .shr [.leaf]],.leaf,.leaf,.leaf,.leaf]] [.lst 0 [],.lst 0 []] [] 0),(6,.box [.sl .own [.leaf,.leaf,.sl .own [.leaf]],.sl .own [.sl .own [.leaf,.leaf,.sl .own [.leaf]],.leaf,.leaf,.leaf,.leaf]] [.lst 0 [],.lst 0 []] [] 0),(8,.box [.sl .own [.leaf,.leaf,.sl .own [.leaf]],.sl .own [.sl .own [.leaf,.leaf,.sl .own [.leaf]],.leaf,.leaf,.leaf,.leaf]] [.lst 0 [],.lst 0 []] [] 0),(32,qS40),(33,qS40)],0⟩
def f15.l0.A:Alt (Int × Int × Nat × List T × Nat × List T × Nat × List T × Nat × List T × Nat × List T × Nat × List T):=.one (.exit 0) ⟨[(1,qS40),(2,qS40),(3,.box [.sl .shr [.leaf,.leaf,.sl .shr [.leaf]],.sl .shr [.sl .shr [.leaf,.leaf,.sl .shr [.leaf]],.leaf,.leaf,.leaf,.leaf]] [.lst 0 [],.lst 0 []] [] 0),(6,.box [.sl .own [.leaf,.leaf,.sl .own [.leaf]],.sl .own [.sl .own [.leaf,.leaf,.sl .own [.leaf]],.leaf,.leaf,.leaf,.leaf]] [.lst 0 [],.lst 0 []] [] 0),(8,.box [.sl .own [.leaf,.leaf,.sl .own [.leaf]],.sl .own [.sl .own [.leaf,.leaf,.sl .own [.leaf]],.leaf,.leaf,.leaf,.leaf]] [.lst 0 [],.lst 0 []] [] 0)],0⟩ sg_iillllll
def f15.l0.F (n m:Nat) (v:Int × Int × Nat × List T × Nat × List T × Nat × List T × Nat × List T × Nat × List T × Nat × List T × Int × Int):=f15.l0 n m v.1 v.2.1 v.2.2.1 v.2.2.2.1 v.2.2.2.2.1 v.2.2.2.2.2.1 v.2.2.2.2.2.2.1 v.2.2.2.2.2.2.2.1 v.2.2.2.2.2.2.2.2.1 v.2.2.2.2.2.2.2.2.2.1 v.2.2.2.2.2.2.2.2.2.2.1 v.2.2.2.2.2.2.2.2.2.2.2.1 v.2.2.2.2.2.2.2.2.2.2.2.2.1 v.2.2.2.2.2.2.2.2.2.2.2.2.2.1 v.2.2.2.2.2.2.2.2.2.2.2.2.2.2.1 v.2.2.2.2.2.2.2.2.2.2.2.2.2.2.2
def f15.l0.W (n:Nat):LpW:=.of 96 f15.l0.P sg_iillllllii f15.l0.A (f15.l0.F n n)
def f15.P:List Arg:=[qA27,qA20,qA20]
def f15.A:RAlt (Nat × List T × Nat × List T × Bool):=.one ⟨[qV2,qV17],[none,none,none]⟩ sg_llb
def f15.F (n:Nat) (v:Nat × List T × Nat × List T × Int × Int):=f15 n v.1 v.2.1 v.2.2.1 v.2.2.2.1 v.2.2.2.2.1 v.2.2.2.2.2
def f15.O (n:Nat):Orc:=orcOf (E:=E) [f28.w,f27.w,f29.w,f41.w,f40.w,f30.w] [f15.l0.W n] n
theorem f15.l0.ok:∀ n,LpS 15 c15 0 n (f15.O n):=lpS f15.l0.P sg_iillllllii f15.l0.A f15.l0.F
theorem f15.ok:FnS 15 f15.P sg_llii f15.A f15.F:=fnS c15 f15.O [loopAt c15 0] (fun n=>(.cons (f15.l0.ok n) .nil))
def f15.w:FnW E:=fnW 15 f15.P sg_llii f15.A f15.F f15.ok
def f58:Nat→Int→Option (Int)
 | 0,_=>none
 | n+1,i1 =>
   some i1
def f58.P:List Arg:=[qA20]
def f58.A:RAlt (Int):=.one ⟨[qV16],[none]⟩ sg_i
def f58.F (n:Nat) (v:Int):=f58 n v
def f58.O (n:Nat):Orc:=orcOf (E:=E) [] [] n
theorem f58.ok:FnS 58 f58.P sg_i f58.A f58.F:=fnS c58 f58.O
def f58.w:FnW E:=fnW 58 f58.P sg_i f58.A f58.F f58.ok
def f92:Nat→Int→Int→Int→Option (Bool)
 | 0,_,_,_=>none
 | n+1,i1,i2,i3 =>
   br (decide (i2≤i1)) (
    some (decide (i1≤i3))) (
    some false)
def f92.P:List Arg:=[qA20,qA20,qA20]
def f92.A:RAlt (Bool):=.one ⟨[qV17],[none,none,none]⟩ sg_b
def f92.F (n:Nat) (v:Int × Int × Int):=f92 n v.1 v.2.1 v.2.2
def f92.O (n:Nat):Orc:=orcOf (E:=E) [] [] n
theorem f92.ok:FnS 92 f92.P sg_iii f92.A f92.F:=fnS c92 f92.O
def f92.w:FnW E:=fnW 92 f92.P sg_iii f92.A f92.F f92.ok
def f87:Nat→Int→Option (Bool)
 | 0,_=>none
 | n+1,i1 =>
   bd (f92 n i1 (1:Int) (8:Int)) fun r2 =>
   let b3:=r2
   some b3
def f87.P:List Arg:=[qA20]
def f87.A:RAlt (Bool):=.one ⟨[qV17],[none]⟩ sg_b
def f87.F (n:Nat) (v:Int):=f87 n v
def f87.O (n:Nat):Orc:=orcOf (E:=E) [f92.w] [] n
theorem f87.ok:FnS 87 f87.P sg_i f87.A f87.F:=fnS c87 f87.O
def f87.w:FnW E:=fnW 87 f87.P sg_i f87.A f87.F f87.ok
def f144:Nat→Int→Int→Nat→List T→Int→Int→Int→Option (Bool)
 | 0,_,_,_,_,_,_,_=>none
 | n+1,i1,i2,n3,l4,i5,i6,i7 =>
   bd (f92 n i2 i5 i6) fun r8 =>
   let b9:=r8
   br b9 (
    some ((n3:Int)==i7)) (
    some false)
def sg_iiliii:Sig (Int × Int × Nat × List T × Int × Int × Int) where
 pk:=fun v=>[.int v.1,.int v.2.1,.lst v.2.2.1 v.2.2.2.1,.int v.2.2.2.2.1,.int v.2.2.2.2.2.1,.int v.2.2.2.2.2.2]
 up:=fun ls=>match ls with
  | [.int a0,.int a1,.lst a2 a3,.int a4,.int a5,.int a6]=>some (a0,a1,a2,a3,a4,a5,a6)
  | _=>none
 ok:=by intro _ _ h;split at h <;>cases h;rfl
def f144.P:List Arg:=[qA24,qA20,qA20,qA20]
def f144.A:RAlt (Bool):=.one ⟨[qV17],[none,none,none,none]⟩ sg_b
def f144.F (n:Nat) (v:Int × Int × Nat × List T × Int × Int × Int):=f144 n v.1 v.2.1 v.2.2.1 v.2.2.2.1 v.2.2.2.2.1 v.2.2.2.2.2.1 v.2.2.2.2.2.2
def f144.O (n:Nat):Orc:=orcOf (E:=E) [f92.w] [] n
theorem f144.ok:FnS 144 f144.P sg_iiliii f144.A f144.F:=fnS c144 f144.O
def f144.w:FnW E:=fnW 144 f144.P sg_iiliii f144.A f144.F f144.ok
def f168:Nat→Nat→Option (Bool)
 | 0,_=>none
 | n+1,x1 =>
   some (feq .f32 (fsub .f32 x1 x1) 0)
def f168.P:List Arg:=[qA22]
def f168.A:RAlt (Bool):=.one ⟨[qV17],[none]⟩ sg_b
def f168.F (n:Nat) (v:Nat):=f168 n v
def f168.O (n:Nat):Orc:=orcOf (E:=E) [] [] n
theorem f168.ok:FnS 168 f168.P sg_f f168.A f168.F:=fnS c168 f168.O
def f168.w:FnW E:=fnW 168 f168.P sg_f f168.A f168.F f168.ok
def f145:Nat→Nat→Option (Bool)
 | 0,_=>none
 | n+1,x1 =>
   bd (f168 n x1) fun r2 =>
   let b3:=r2
   br b3 (
    some (fgt .f32 x1 0)) (
    some false)
def f145.P:List Arg:=[qA22]
def f145.A:RAlt (Bool):=.one ⟨[qV17],[none]⟩ sg_b
def f145.F (n:Nat) (v:Nat):=f145 n v
def f145.O (n:Nat):Orc:=orcOf (E:=E) [f168.w] [] n
theorem f145.ok:FnS 145 f145.P sg_f f145.A f145.F:=fnS c145 f145.O
def f145.w:FnW E:=fnW 145 f145.P sg_f f145.A f145.F f145.ok
def f115:Nat→Int→Int→Nat→List T→Option (Bool)
 | 0,_,_,_,_=>none
 | n+1,i1,i2,n3,l4 =>
   br (i1==(0:Int)) (
    br (i1==(0:Int)) (
     bd (f144 n i1 i2 n3 l4 (0:Int) (0:Int) (1:Int)) fun r5 =>
     let b6:=r5
     some b6) (
     br (i1==(1:Int)) (
      bd (f144 n i1 i2 n3 l4 (0:Int) (0:Int) (5:Int)) fun r7 =>
      let b8:=r7
      some b8) (
      br (i1==(2:Int)) (
       bd (f144 n i1 i2 n3 l4 (1:Int) (32:Int) (2:Int)) fun r9 =>
       let b10:=r9
       some b10) (
       br (i1==(3:Int)) (
        bd (f144 n i1 i2 n3 l4 (0:Int) (0:Int) (4:Int)) fun r11 =>
        let b12:=r11
        some b12) (
        br (i1==(5:Int)) (
         bd (f144 n i1 i2 n3 l4 (0:Int) (0:Int) (0:Int)) fun r13 =>
         let b14:=r13
         some b14) (
         br (i1==(6:Int)) (
          bd (f144 n i1 i2 n3 l4 (0:Int) (32:Int) (2:Int)) fun r15 =>
          let b16:=r15
          br b16 (
           gd ((decide ((0≤(0:Int))∧((0:Int)<(n3:Int))))&&(okAt [(CK.flt .f32)] l4 0)) (
           bd (f145 n (fAt l4 0)) fun r17 =>
           let b18:=r17
           some b18)) (
           some false)) (
          some false))))))) (
    br (i1==(4:Int)) (
     bd (f144 n i1 i2 n3 l4 (0:Int) (0:Int) (1:Int)) fun r19 =>
     let b20:=r19
     some b20) (
     br (i1==(1:Int)) (
      bd (f144 n i1 i2 n3 l4 (0:Int) (0:Int) (5:Int)) fun r21 =>
      let b22:=r21
      some b22) (
      br (i1==(2:Int)) (
       bd (f144 n i1 i2 n3 l4 (1:Int) (32:Int) (2:Int)) fun r23 =>
       let b24:=r23
       some b24) (
       br (i1==(3:Int)) (
        bd (f144 n i1 i2 n3 l4 (0:Int) (0:Int) (4:Int)) fun r25 =>
        let b26:=r25
        some b26) (
        br (i1==(5:Int)) (
         bd (f144 n i1 i2 n3 l4 (0:Int) (0:Int) (0:Int)) fun r27 =>
         let b28:=r27
         some b28) (
         br (i1==(6:Int)) (
          bd (f144 n i1 i2 n3 l4 (0:Int) (32:Int) (2:Int)) fun r29 =>
          let b30:=r29
          br b30 (
           gd ((decide ((0≤(0:Int))∧((0:Int)<(n3:Int))))&&(okAt [(CK.flt .f32)] l4 0)) (
           bd (f145 n (fAt l4 0)) fun r31 =>
           let b32:=r31
           some b32)) (
           some false)) (
          some false)))))))
def f115.P:List Arg:=[qA24]
def f115.A:RAlt (Bool):=.one ⟨[qV17],[none]⟩ sg_b
def f115.F (n:Nat) (v:Int × Int × Nat × List T):=f115 n v.1 v.2.1 v.2.2.1 v.2.2.2
def f115.O (n:Nat):Orc:=orcOf (E:=E) [f144.w,f145.w] [] n
theorem f115.ok:FnS 115 f115.P sg_iil f115.A f115.F:=fnS c115 f115.O
def f115.w:FnW E:=fnW 115 f115.P sg_iil f115.A f115.F f115.ok
def f88.l0 (n:Nat):Nat→Nat→List T→Nat→List T→Int→Int→Option ((Bool) ⊕ (Unit))
 | 0,_,_,_,_,_,_=>none
 | m+1,n1,l2,n3,l4,i5,i6 =>
   br (decide (i6<i5)) (
    gd ((decide ((0≤i6)∧(i6<(n3:Int))))&&(okAt [(CK.int .i64),(CK.int .i64),CK.lst] l4 (((Int.toNat i6) * 3)+0))) (
    let i7:=(iAt l4 (((Int.toNat i6) * 3)+0))
    let i8:=(iAt l4 ((((Int.toNat i6) * 3)+0)+1))
    let n9:=(nAt l4 (((((Int.toNat i6) * 3)+0)+1)+1))
    let l10:=(lAt l4 (((((Int.toNat i6) * 3)+0)+1)+1))
    bd (f115 n i7 i8 n9 l10) fun r11 =>
    let b12:=r11
    br (!b12) (
     some (Sum.inl false)) (
     f88.l0 n m n1 l2 n3 l4 i5 (IntKind.i64.wrap (i6+(1:Int)))))) (
    some (Sum.inr ()))
def f88:Nat→Nat→List T→Option (Bool)
 | 0,_,_=>none
 | n+1,n1,l2 =>
   br (decide ((n1:Int)>(8:Int))) (
    some false) (
    bd (f88.l0 n n n1 l2 n1 l2 (n1:Int) (0:Int)) fun r3 =>
    sm r3 (fun u4 =>
     let b5:=u4
     some b5) (fun u6 =>
     some true))
def f88.l0.P:AS:=⟨[(0,qS34),(8,qS34),(9,qS40),(10,qS40)],0⟩
def f88.l0.A:Alt ((Bool) ⊕ (Unit)):=.or (.one .ret ⟨[(2,qS41)],0⟩ sg_b) (.one (.exit 0) ⟨[(2,.dead)],0⟩ sg)
def f88.l0.F (n m:Nat) (v:Nat × List T × Nat × List T × Int × Int):=f88.l0 n m v.1 v.2.1 v.2.2.1 v.2.2.2.1 v.2.2.2.2.1 v.2.2.2.2.2
def f88.l0.W (n:Nat):LpW:=.of 64 f88.l0.P sg_llii f88.l0.A (f88.l0.F n n)
def f88.P:List Arg:=[qA21]
def f88.A:RAlt (Bool):=.one ⟨[qV17],[none]⟩ sg_b
def f88.F (n:Nat) (v:Nat × List T):=f88 n v.1 v.2
def f88.O (n:Nat):Orc:=orcOf (E:=E) [f115.w] [f88.l0.W n] n
theorem f88.l0.ok:∀ n,LpS 88 c88 0 n (f88.O n):=lpS f88.l0.P sg_llii f88.l0.A f88.l0.F
theorem f88.ok:FnS 88 f88.P sg_l f88.A f88.F:=fnS c88 f88.O [loopAt c88 0] (fun n=>(.cons (f88.l0.ok n) .nil))
def f88.w:FnW E:=fnW 88 f88.P sg_l f88.A f88.F f88.ok
def f89:Nat→Int→Option (Bool)
 | 0,_=>none
 | n+1,i1 =>
   bd (f92 n i1 (-2000:Int) (2000:Int)) fun r2 =>
   let b3:=r2
   some b3
def f89.P:List Arg:=[qA20]
def f89.A:RAlt (Bool):=.one ⟨[qV17],[none]⟩ sg_b
def f89.F (n:Nat) (v:Int):=f89 n v
def f89.O (n:Nat):Orc:=orcOf (E:=E) [f92.w] [] n
theorem f89.ok:FnS 89 f89.P sg_i f89.A f89.F:=fnS c89 f89.O
def f89.w:FnW E:=fnW 89 f89.P sg_i f89.A f89.F f89.ok
def f90:Nat→Nat→Option (Bool)
 | 0,_=>none
 | n+1,x1 =>
   br (fge .f32 x1 0) (
    some (fle .f32 x1 1065353216)) (
    some false)
def f90.P:List Arg:=[qA22]
def f90.A:RAlt (Bool):=.one ⟨[qV17],[none]⟩ sg_b
def f90.F (n:Nat) (v:Nat):=f90 n v
def f90.O (n:Nat):Orc:=orcOf (E:=E) [] [] n
theorem f90.ok:FnS 90 f90.P sg_f f90.A f90.F:=fnS c90 f90.O
def f90.w:FnW E:=fnW 90 f90.P sg_f f90.A f90.F f90.ok
def f50.l0 (n:Nat):Nat→Nat→List T→Nat→List T→Nat→List T→Int→Int→Option ((Bool) ⊕ (Nat × List T × Nat × List T))
 | 0,_,_,_,_,_,_,_,_=>none
 | m+1,n1,l2,n3,l4,n5,l6,i7,i8 =>
   br (decide (i8<i7)) (
    gd ((decide ((0≤i8)∧(i8<(n5:Int))))&&(okAt [CK.lst,(CK.int .i64),(CK.flt .f32),CK.bool,CK.bool] l6 (((Int.toNat i8) * 5)+0))) (
    let n9:=(nAt l6 (((Int.toNat i8) * 5)+0))
    let l10:=(lAt l6 (((Int.toNat i8) * 5)+0))
    let i11:=(iAt l6 ((((Int.toNat i8) * 5)+0)+1))
    let x12:=(fAt l6 (((((Int.toNat i8) * 5)+0)+1)+1))
    let b13:=(bAt l6 ((((((Int.toNat i8) * 5)+0)+1)+1)+1))
    let b14:=(bAt l6 (((((((Int.toNat i8) * 5)+0)+1)+1)+1)+1))
    bd (f88 n n9 l10) fun r15 =>
    let b16:=r15
    br (!b16) (
     some (Sum.inl false)) (
     bd (f89 n i11) fun r17 =>
     let b18:=r17
     br (!b18) (
      some (Sum.inl false)) (
      bd (f90 n x12) fun r19 =>
      let b20:=r19
      br (!b20) (
       some (Sum.inl false)) (
       f50.l0 n m n1 l2 n3 l4 n5 l6 i7 (IntKind.i64.wrap (i8+(1:Int)))))))) (
    some (Sum.inr (n1,l2,n3,l4)))
def f71:Nat→Int→Int→Option (Bool)
 | 0,_,_=>none
 | n+1,i1,i2 =>
   bd (f92 n i1 (0:Int) (IntKind.i64.wrap (i2 - (1:Int)))) fun r3 =>
   let b4:=r3
   some b4
def f71.P:List Arg:=[qA20,qA20]
def f71.A:RAlt (Bool):=.one ⟨[qV17],[none,none]⟩ sg_b
def f71.F (n:Nat) (v:Int × Int):=f71 n v.1 v.2
def f71.O (n:Nat):Orc:=orcOf (E:=E) [f92.w] [] n
theorem f71.ok:FnS 71 f71.P sg_ii f71.A f71.F:=fnS c71 f71.O
def f71.w:FnW E:=fnW 71 f71.P sg_ii f71.A f71.F f71.ok
def f51:Nat→Int→Option (Bool)
 | 0,_=>none
 | n+1,i1 =>
   bd (f92 n i1 (0:Int) (256:Int)) fun r2 =>
   let b3:=r2
   some b3
def f51.P:List Arg:=[qA20]
def f51.A:RAlt (Bool):=.one ⟨[qV17],[none]⟩ sg_b
def f51.F (n:Nat) (v:Int):=f51 n v
def f51.O (n:Nat):Orc:=orcOf (E:=E) [f92.w] [] n
theorem f51.ok:FnS 51 f51.P sg_i f51.A f51.F:=fnS c51 f51.O
def f51.w:FnW E:=fnW 51 f51.P sg_i f51.A f51.F f51.ok
def f91:Nat→Nat→List T→Option (Bool)
 | 0,_,_=>none
 | n+1,n1,l2 =>
   some (decide ((n1:Int)≤(256:Int)))
def f91.P:List Arg:=[qA19]
def f91.A:RAlt (Bool):=.one ⟨[qV17],[none]⟩ sg_b
def f91.F (n:Nat) (v:Nat × List T):=f91 n v.1 v.2
def f91.O (n:Nat):Orc:=orcOf (E:=E) [] [] n
theorem f91.ok:FnS 91 f91.P sg_l f91.A f91.F:=fnS c91 f91.O
def f91.w:FnW E:=fnW 91 f91.P sg_l f91.A f91.F f91.ok
def f50.l1 (n:Nat):Nat→Nat→List T→Nat→List T→Nat→List T→Int→Int→Option ((Bool) ⊕ (Unit))
 | 0,_,_,_,_,_,_,_,_=>none
 | m+1,n1,l2,n3,l4,n5,l6,i7,i8 =>
   br (decide (i8<i7)) (
    gd ((decide ((0≤i8)∧(i8<(n5:Int))))&&(okAt [(CK.int .i64),(CK.int .i64),CK.lst] l6 (((Int.toNat i8) * 3)+0))) (
    let i9:=(iAt l6 (((Int.toNat i8) * 3)+0))
    let i10:=(iAt l6 ((((Int.toNat i8) * 3)+0)+1))
    let n11:=(nAt l6 (((((Int.toNat i8) * 3)+0)+1)+1))
    let l12:=(lAt l6 (((((Int.toNat i8) * 3)+0)+1)+1))
    bd (f71 n i9 (n3:Int)) fun r13 =>
    let b14:=r13
    br (!b14) (
     some (Sum.inl false)) (
     bd (f51 n i10) fun r15 =>
     let b16:=r15
     br (!b16) (
      some (Sum.inl false)) (
      bd (f91 n n11 l12) fun r17 =>
      let b18:=r17
      br (!b18) (
       some (Sum.inl false)) (
       f50.l1 n m n1 l2 n3 l4 n5 l6 i7 (IntKind.i64.wrap (i8+(1:Int)))))))) (
    some (Sum.inr ()))
def f50:Nat→Nat→List T→Nat→List T→Option (Bool)
 | 0,_,_,_,_=>none
 | n+1,n1,l2,n3,l4 =>
   bd (f58 n (n3:Int)) fun r5 =>
   let i6:=r5
   bd (f87 n i6) fun r7 =>
   let b8:=r7
   br (!b8) (
    some false) (
    br (decide ((n1:Int)>(12:Int))) (
     some false) (
     bd (f50.l0 n n n1 l2 n3 l4 n3 l4 (n3:Int) (0:Int)) fun r9 =>
     sm r9 (fun u10 =>
      let b11:=u10
      some b11) (fun u12 =>
      let n13:=u12.1
      let l14:=u12.2.1
      let n15:=u12.2.2.1
      let l16:=u12.2.2.2
      bd (f50.l1 n n n13 l14 n15 l16 n13 l14 (n13:Int) (0:Int)) fun r17 =>
      sm r17 (fun u18 =>
       let b19:=u18
       some b19) (fun u20 =>
       some true))))
def sg_lllii:Sig (Nat × List T × Nat × List T × Nat × List T × Int × Int) where
 pk:=fun v=>[.lst v.1 v.2.1,.lst v.2.2.1 v.2.2.2.1,.lst v.2.2.2.2.1 v.2.2.2.2.2.1,.int v.2.2.2.2.2.2.1,.int v.2.2.2.2.2.2.2]
 up:=fun ls=>match ls with
  | [.lst a0 a1,.lst a2 a3,.lst a4 a5,.int a6,.int a7]=>some (a0,a1,a2,a3,a4,a5,a6,a7)
  | _=>none
 ok:=by intro _ _ h;split at h <;>cases h;rfl
def f50.l0.P:AS:=⟨[(1,.box [.sl .shr [.leaf,.leaf,.sl .shr [.leaf]],.sl .shr [.sl .shr [.leaf,.leaf,.sl .shr [.leaf]],.leaf,.leaf,.leaf,.leaf]] [.lst 0 [],.lst 0 []] [] 0),(20,qS33),(21,qS40),(22,qS40)],0⟩
def f50.l0.A:Alt ((Bool) ⊕ (Nat × List T × Nat × List T)):=.or (.one .ret ⟨[(1,.dead),(2,qS41),(69,.dead)],0⟩ sg_b) (.one (.exit 0) ⟨[(1,.box [.sl .shr [.leaf,.leaf,.sl .shr [.leaf]],.sl .shr [.sl .shr [.leaf,.leaf,.sl .shr [.leaf]],.leaf,.leaf,.leaf,.leaf]] [.lst 0 [],.lst 0 []] [] 0),(2,.dead),(69,.dead)],0⟩ sg_ll)
def f50.l0.F (n m:Nat) (v:Nat × List T × Nat × List T × Nat × List T × Int × Int):=f50.l0 n m v.1 v.2.1 v.2.2.1 v.2.2.2.1 v.2.2.2.2.1 v.2.2.2.2.2.1 v.2.2.2.2.2.2.1 v.2.2.2.2.2.2.2
def f50.l0.W (n:Nat):LpW:=.of 64 f50.l0.P sg_lllii f50.l0.A (f50.l0.F n n)
def f50.l1.P:AS:=⟨[(1,.box [.sl .shr [.leaf,.leaf,.sl .shr [.leaf]],.sl .shr [.sl .shr [.leaf,.leaf,.sl .shr [.leaf]],.leaf,.leaf,.leaf,.leaf]] [.lst 0 [],.lst 0 []] [] 0),(44,qS34),(45,qS40),(46,qS40)],0⟩
def f50.l1.A:Alt ((Bool) ⊕ (Unit)):=.or (.one .ret ⟨[(2,qS41)],0⟩ sg_b) (.one (.exit 2) ⟨[(2,.dead)],0⟩ sg)
def f50.l1.F (n m:Nat) (v:Nat × List T × Nat × List T × Nat × List T × Int × Int):=f50.l1 n m v.1 v.2.1 v.2.2.1 v.2.2.2.1 v.2.2.2.2.1 v.2.2.2.2.2.1 v.2.2.2.2.2.2.1 v.2.2.2.2.2.2.2
def f50.l1.W (n:Nat):LpW:=.of 160 f50.l1.P sg_lllii f50.l1.A (f50.l1.F n n)
def f50.P:List Arg:=[qA27]
def f50.A:RAlt (Bool):=.one ⟨[qV17],[none]⟩ sg_b
def f50.F (n:Nat) (v:Nat × List T × Nat × List T):=f50 n v.1 v.2.1 v.2.2.1 v.2.2.2
def f50.O (n:Nat):Orc:=orcOf (E:=E) [f58.w,f87.w,f88.w,f89.w,f90.w,f71.w,f51.w,f91.w] [f50.l0.W n,f50.l1.W n] n
theorem f50.l0.ok:∀ n,LpS 50 c50 0 n (f50.O n):=lpS f50.l0.P sg_lllii f50.l0.A f50.l0.F
theorem f50.l1.ok:∀ n,LpS 50 c50 1 n (f50.O n):=lpS f50.l1.P sg_lllii f50.l1.A f50.l1.F
theorem f50.ok:FnS 50 f50.P sg_ll f50.A f50.F:=fnS c50 f50.O [loopAt c50 0,loopAt c50 1] (fun n=>(.cons (f50.l0.ok n) (.cons (f50.l1.ok n) .nil)))
def f50.w:FnW E:=fnW 50 f50.P sg_ll f50.A f50.F f50.ok
def f33:Nat→Nat→List T→Nat→List T→Int→Int→Option (Bool)
 | 0,_,_,_,_,_,_=>none
 | n+1,n1,l2,n3,l4,i5,i6 =>
   bd (f50 n n1 l2 n3 l4) fun r7 =>
   let b8:=r7
   br b8 (
    bd (f71 n i5 (n3:Int)) fun r9 =>
    let b10:=r9
    br b10 (
     bd (f51 n i6) fun r11 =>
     let b12:=r11
     some b12) (
     some false)) (
    some false)
def f33.P:List Arg:=[qA27,qA20,qA20]
def f33.A:RAlt (Bool):=.one ⟨[qV17],[none,none,none]⟩ sg_b
def f33.F (n:Nat) (v:Nat × List T × Nat × List T × Int × Int):=f33 n v.1 v.2.1 v.2.2.1 v.2.2.2.1 v.2.2.2.2.1 v.2.2.2.2.2
def f33.O (n:Nat):Orc:=orcOf (E:=E) [f71.w,f51.w,f50.w] [] n
theorem f33.ok:FnS 33 f33.P sg_llii f33.A f33.F:=fnS c33 f33.O
def f33.w:FnW E:=fnW 33 f33.P sg_llii f33.A f33.F f33.ok
def f79:Nat→Nat→List T→Option (Nat × List T)
 | 0,_,_=>none
 | n+1,n1,l2 =>
   gd (Nat.ble (0+n1) 2147483648) (
   some ((0+n1),((reps 0 [(T.flt .f32 0)])++l2)))
def f79.P:List Arg:=[qA19]
def f79.A:RAlt (Nat × List T):=.one ⟨[qV15],[none]⟩ sg_l
def f79.F (n:Nat) (v:Nat × List T):=f79 n v.1 v.2
def f79.O (n:Nat):Orc:=orcOf (E:=E) [] [] n
theorem f79.ok:FnS 79 f79.P sg_l f79.A f79.F:=fnS c79 f79.O
def f79.w:FnW E:=fnW 79 f79.P sg_l f79.A f79.F f79.ok
def f42.l0 (n:Nat):Nat→Nat→List T→Nat→List T→Nat→List T→Nat→List T→Nat→List T→Nat→List T→Nat→List T→Int→Int→Option (Nat × List T × Nat × List T × Nat × List T × Nat × List T × Nat × List T × Nat × List T)
 | 0,_,_,_,_,_,_,_,_,_,_,_,_,_,_,_,_=>none
 | m+1,n1,l2,n3,l4,n5,l6,n7,l8,n9,l10,n11,l12,n13,l14,i15,i16 =>
   br (decide (i16<i15)) (
    gd ((decide ((0≤i16)∧(i16<(n13:Int))))&&(okAt [(CK.int .i64),(CK.int .i64),CK.lst] l14 (((Int.toNat i16) * 3)+0))) (
    let i17:=(iAt l14 (((Int.toNat i16) * 3)+0))
    let i18:=(iAt l14 ((((Int.toNat i16) * 3)+0)+1))
    let n19:=(nAt l14 (((((Int.toNat i16) * 3)+0)+1)+1))
    let l20:=(lAt l14 (((((Int.toNat i16) * 3)+0)+1)+1))
    bd (f79 n n19 l20) fun r21 =>
    let n22:=r21.1
    let l23:=r21.2
    gd (Nat.ble (n9+1) 2147483648) (
    let n24:=(n9+1)
    let l25:=(l10++(setN (reps 1 [(T.int .i64 (0:Int)),(T.int .i64 (0:Int)),(T.lst 0 [])]) 0 [(T.int .i64 i17),(T.int .i64 i18),(T.lst n22 l23)]))
    f42.l0 n m n1 l2 n3 l4 n5 l6 n7 l8 n24 l25 n11 l12 n13 l14 i15 (IntKind.i64.wrap (i16+(1:Int)))))) (
    some (n1,l2,n3,l4,n5,l6,n7,l8,n9,l10,n11,l12))
termination_by structural x=>x
def f80.l0 (n:Nat):Nat→Nat→List T→Nat→List T→Nat→List T→Int→Int→Option (Nat × List T)
 | 0,_,_,_,_,_,_,_,_=>none
 | m+1,n1,l2,n3,l4,n5,l6,i7,i8 =>
   br (decide (i8<i7)) (
    gd ((decide ((0≤i8)∧(i8<(n5:Int))))&&(okAt [(CK.int .i64),(CK.int .i64),CK.lst] l6 (((Int.toNat i8) * 3)+0))) (
    let i9:=(iAt l6 (((Int.toNat i8) * 3)+0))
    let i10:=(iAt l6 ((((Int.toNat i8) * 3)+0)+1))
    let n11:=(nAt l6 (((((Int.toNat i8) * 3)+0)+1)+1))
    let l12:=(lAt l6 (((((Int.toNat i8) * 3)+0)+1)+1))
    bd (f79 n n11 l12) fun r13 =>
    let n14:=r13.1
    let l15:=r13.2
    gd (Nat.ble (n3+1) 2147483648) (
    let n16:=(n3+1)
    let l17:=(l4++(setN (reps 1 [(T.int .i64 (0:Int)),(T.int .i64 (0:Int)),(T.lst 0 [])]) 0 [(T.int .i64 i9),(T.int .i64 i10),(T.lst n14 l15)]))
    f80.l0 n m n1 l2 n16 l17 n5 l6 i7 (IntKind.i64.wrap (i8+(1:Int)))))) (
    some (n3,l4))
def f80:Nat→Nat→List T→Option (Nat × List T)
 | 0,_,_=>none
 | n+1,n1,l2 =>
   bd (f80.l0 n n n1 l2 0 [] n1 l2 (n1:Int) (0:Int)) fun r3 =>
   let n4:=r3.1
   let l5:=r3.2
   some (n4,l5)
def f80.l0.P:AS:=⟨[(0,qS34),(3,qS35),(6,qS34),(7,qS40),(8,qS40)],0⟩
def f80.l0.A:Alt (Nat × List T):=.one (.exit 0) ⟨[(3,qS35)],0⟩ sg_l
def f80.l0.F (n m:Nat) (v:Nat × List T × Nat × List T × Nat × List T × Int × Int):=f80.l0 n m v.1 v.2.1 v.2.2.1 v.2.2.2.1 v.2.2.2.2.1 v.2.2.2.2.2.1 v.2.2.2.2.2.2.1 v.2.2.2.2.2.2.2
def f80.l0.W (n:Nat):LpW:=.of 48 f80.l0.P sg_lllii f80.l0.A (f80.l0.F n n)
def f80.P:List Arg:=[qA21]
def f80.A:RAlt (Nat × List T):=.one ⟨[qV12],[none]⟩ sg_l
def f80.F (n:Nat) (v:Nat × List T):=f80 n v.1 v.2
def f80.O (n:Nat):Orc:=orcOf (E:=E) [f79.w] [f80.l0.W n] n
theorem f80.l0.ok:∀ n,LpS 80 c80 0 n (f80.O n):=lpS f80.l0.P sg_lllii f80.l0.A f80.l0.F
theorem f80.ok:FnS 80 f80.P sg_l f80.A f80.F:=fnS c80 f80.O [loopAt c80 0] (fun n=>(.cons (f80.l0.ok n) .nil))
def f80.w:FnW E:=fnW 80 f80.P sg_l f80.A f80.F f80.ok
def f42.l1 (n:Nat):Nat→Nat→List T→Nat→List T→Nat→List T→Nat→List T→Nat→List T→Nat→List T→Nat→List T→Int→Int→Option (Nat × List T × Nat × List T × Nat × List T × Nat × List T)
 | 0,_,_,_,_,_,_,_,_,_,_,_,_,_,_,_,_=>none
 | m+1,n1,l2,n3,l4,n5,l6,n7,l8,n9,l10,n11,l12,n13,l14,i15,i16 =>
   br (decide (i16<i15)) (
    gd ((decide ((0≤i16)∧(i16<(n13:Int))))&&(okAt [CK.lst,(CK.int .i64),(CK.flt .f32),CK.bool,CK.bool] l14 (((Int.toNat i16) * 5)+0))) (
    let n17:=(nAt l14 (((Int.toNat i16) * 5)+0))
    let l18:=(lAt l14 (((Int.toNat i16) * 5)+0))
    let i19:=(iAt l14 ((((Int.toNat i16) * 5)+0)+1))
    let x20:=(fAt l14 (((((Int.toNat i16) * 5)+0)+1)+1))
    let b21:=(bAt l14 ((((((Int.toNat i16) * 5)+0)+1)+1)+1))
    let b22:=(bAt l14 (((((((Int.toNat i16) * 5)+0)+1)+1)+1)+1))
    bd (f80 n n17 l18) fun r23 =>
    let n24:=r23.1
    let l25:=r23.2
    gd (Nat.ble (n11+1) 2147483648) (
    let n26:=(n11+1)
    let l27:=(l12++(setN (reps 1 [(T.lst 0 []),(T.int .i64 (0:Int)),(T.flt .f32 0),(T.bool false),(T.bool false)]) 0 [(T.lst n24 l25),(T.int .i64 i19),(T.flt .f32 x20),(T.bool b21),(T.bool b22)]))
    f42.l1 n m n1 l2 n3 l4 n5 l6 n7 l8 n9 l10 n26 l27 n13 l14 i15 (IntKind.i64.wrap (i16+(1:Int)))))) (
    some (n5,l6,n7,l8,n9,l10,n11,l12))
termination_by structural x=>x
def f42:Nat→Nat→List T→Nat→List T→Option (Nat × List T × Nat × List T)
 | 0,_,_,_,_=>none
 | n+1,n1,l2,n3,l4 =>
   bd (f42.l0 n n n1 l2 n3 l4 0 [] 0 [] 0 [] 0 [] n1 l2 (n1:Int) (0:Int)) fun r5 =>
   let n6:=r5.1
   let l7:=r5.2.1
   let n8:=r5.2.2.1
   let l9:=r5.2.2.2.1
   let n10:=r5.2.2.2.2.1
   let l11:=r5.2.2.2.2.2.1
   let n12:=r5.2.2.2.2.2.2.1
   let l13:=r5.2.2.2.2.2.2.2.1
   let n14:=r5.2.2.2.2.2.2.2.2.1
   let l15:=r5.2.2.2.2.2.2.2.2.2.1
   let n16:=r5.2.2.2.2.2.2.2.2.2.2.1
   let l17:=r5.2.2.2.2.2.2.2.2.2.2.2
   bd (f42.l1 n n n6 l7 n8 l9 n10 l11 n12 l13 n14 l15 n16 l17 n8 l9 (n8:Int) (0:Int)) fun r18 =>
   let n23:=r18.2.2.2.2.1
   let l24:=r18.2.2.2.2.2.1
   let n25:=r18.2.2.2.2.2.2.1
   let l26:=r18.2.2.2.2.2.2.2
   some (n23,l24,n25,l26)
def sg_lllllllii:Sig (Nat × List T × Nat × List T × Nat × List T × Nat × List T × Nat × List T × Nat × List T × Nat × List T × Int × Int) where
 pk:=fun v=>[.lst v.1 v.2.1,.lst v.2.2.1 v.2.2.2.1,.lst v.2.2.2.2.1 v.2.2.2.2.2.1,.lst v.2.2.2.2.2.2.1 v.2.2.2.2.2.2.2.1,.lst v.2.2.2.2.2.2.2.2.1 v.2.2.2.2.2.2.2.2.2.1,.lst v.2.2.2.2.2.2.2.2.2.2.1 v.2.2.2.2.2.2.2.2.2.2.2.1,.lst v.2.2.2.2.2.2.2.2.2.2.2.2.1 v.2.2.2.2.2.2.2.2.2.2.2.2.2.1,.int v.2.2.2.2.2.2.2.2.2.2.2.2.2.2.1,.int v.2.2.2.2.2.2.2.2.2.2.2.2.2.2.2]
 up:=fun ls=>match ls with
  | [.lst a0 a1,.lst a2 a3,.lst a4 a5,.lst a6 a7,.lst a8 a9,.lst a10 a11,.lst a12 a13,.int a14,.int a15]=>some (a0,a1,a2,a3,a4,a5,a6,a7,a8,a9,a10,a11,a12,a13,a14,a15)
  | _=>none
 ok:=by intro _ _ h;split at h <;>cases h;rfl
def f42.l0.P:AS:=⟨[(1,.box [.sl .shr [.leaf,.leaf,.sl .shr [.leaf]],.sl .shr [.sl .shr [.leaf,.leaf,.sl .shr [.leaf]],.leaf,.leaf,.leaf,.leaf]] [.lst 0 [],.lst 0 []] [] 0),(2,.box [.sl .own [.leaf,.leaf,.sl .own [.leaf]],.sl .own [.sl .own [.leaf,.leaf,.sl .own [.leaf]],.leaf,.leaf,.leaf,.leaf]] [.lst 0 [],.lst 0 []] [] 0),(3,.box [.sl .own [.leaf,.leaf,.sl .own [.leaf]],.sl .own [.sl .own [.leaf,.leaf,.sl .own [.leaf]],.leaf,.leaf,.leaf,.leaf]] [.lst 0 [],.lst 0 []] [] 0),(9,qS34),(10,qS40),(11,qS40)],0⟩
def f42.l0.A:Alt (Nat × List T × Nat × List T × Nat × List T × Nat × List T × Nat × List T × Nat × List T):=.one (.exit 0) ⟨[(1,.box [.sl .shr [.leaf,.leaf,.sl .shr [.leaf]],.sl .shr [.sl .shr [.leaf,.leaf,.sl .shr [.leaf]],.leaf,.leaf,.leaf,.leaf]] [.lst 0 [],.lst 0 []] [] 0),(2,.box [.sl .own [.leaf,.leaf,.sl .own [.leaf]],.sl .own [.sl .own [.leaf,.leaf,.sl .own [.leaf]],.leaf,.leaf,.leaf,.leaf]] [.lst 0 [],.lst 0 []] [] 0),(3,.box [.sl .own [.leaf,.leaf,.sl .own [.leaf]],.sl .own [.sl .own [.leaf,.leaf,.sl .own [.leaf]],.leaf,.leaf,.leaf,.leaf]] [.lst 0 [],.lst 0 []] [] 0),(43,.dead)],0⟩ sg_llllll
def f42.l0.F (n m:Nat) (v:Nat × List T × Nat × List T × Nat × List T × Nat × List T × Nat × List T × Nat × List T × Nat × List T × Int × Int):=f42.l0 n m v.1 v.2.1 v.2.2.1 v.2.2.2.1 v.2.2.2.2.1 v.2.2.2.2.2.1 v.2.2.2.2.2.2.1 v.2.2.2.2.2.2.2.1 v.2.2.2.2.2.2.2.2.1 v.2.2.2.2.2.2.2.2.2.1 v.2.2.2.2.2.2.2.2.2.2.1 v.2.2.2.2.2.2.2.2.2.2.2.1 v.2.2.2.2.2.2.2.2.2.2.2.2.1 v.2.2.2.2.2.2.2.2.2.2.2.2.2.1 v.2.2.2.2.2.2.2.2.2.2.2.2.2.2.1 v.2.2.2.2.2.2.2.2.2.2.2.2.2.2.2
def f42.l0.W (n:Nat):LpW:=.of 48 f42.l0.P sg_lllllllii f42.l0.A (f42.l0.F n n)
def f42.l1.P:AS:=⟨[(1,.box [.sl .shr [.leaf,.leaf,.sl .shr [.leaf]],.sl .shr [.sl .shr [.leaf,.leaf,.sl .shr [.leaf]],.leaf,.leaf,.leaf,.leaf]] [.lst 0 [],.lst 0 []] [] 0),(2,.box [.sl .own [.leaf,.leaf,.sl .own [.leaf]],.sl .own [.sl .own [.leaf,.leaf,.sl .own [.leaf]],.leaf,.leaf,.leaf,.leaf]] [.lst 0 [],.lst 0 []] [] 0),(3,.box [.sl .own [.leaf,.leaf,.sl .own [.leaf]],.sl .own [.sl .own [.leaf,.leaf,.sl .own [.leaf]],.leaf,.leaf,.leaf,.leaf]] [.lst 0 [],.lst 0 []] [] 0),(27,qS33),(28,qS40),(29,qS40)],0⟩
def f42.l1.A:Alt (Nat × List T × Nat × List T × Nat × List T × Nat × List T):=.one (.exit 2) ⟨[(2,.box [.sl .own [.leaf,.leaf,.sl .own [.leaf]],.sl .own [.sl .own [.leaf,.leaf,.sl .own [.leaf]],.leaf,.leaf,.leaf,.leaf]] [.lst 0 [],.lst 0 []] [] 0),(3,.box [.sl .own [.leaf,.leaf,.sl .own [.leaf]],.sl .own [.sl .own [.leaf,.leaf,.sl .own [.leaf]],.leaf,.leaf,.leaf,.leaf]] [.lst 0 [],.lst 0 []] [] 0)],0⟩ sg_llll
def f42.l1.F (n m:Nat) (v:Nat × List T × Nat × List T × Nat × List T × Nat × List T × Nat × List T × Nat × List T × Nat × List T × Int × Int):=f42.l1 n m v.1 v.2.1 v.2.2.1 v.2.2.2.1 v.2.2.2.2.1 v.2.2.2.2.2.1 v.2.2.2.2.2.2.1 v.2.2.2.2.2.2.2.1 v.2.2.2.2.2.2.2.2.1 v.2.2.2.2.2.2.2.2.2.1 v.2.2.2.2.2.2.2.2.2.2.1 v.2.2.2.2.2.2.2.2.2.2.2.1 v.2.2.2.2.2.2.2.2.2.2.2.2.1 v.2.2.2.2.2.2.2.2.2.2.2.2.2.1 v.2.2.2.2.2.2.2.2.2.2.2.2.2.2.1 v.2.2.2.2.2.2.2.2.2.2.2.2.2.2.2
def f42.l1.W (n:Nat):LpW:=.of 144 f42.l1.P sg_lllllllii f42.l1.A (f42.l1.F n n)
def f42.P:List Arg:=[qA27]
def f42.A:RAlt (Nat × List T × Nat × List T):=.one ⟨[qV2],[none]⟩ sg_ll
def f42.F (n:Nat) (v:Nat × List T × Nat × List T):=f42 n v.1 v.2.1 v.2.2.1 v.2.2.2
def f42.O (n:Nat):Orc:=orcOf (E:=E) [f79.w,f80.w] [f42.l0.W n,f42.l1.W n] n
theorem f42.l0.ok:∀ n,LpS 42 c42 0 n (f42.O n):=lpS f42.l0.P sg_lllllllii f42.l0.A f42.l0.F
theorem f42.l1.ok:∀ n,LpS 42 c42 1 n (f42.O n):=lpS f42.l1.P sg_lllllllii f42.l1.A f42.l1.F
theorem f42.ok:FnS 42 f42.P sg_ll f42.A f42.F:=fnS c42 f42.O [loopAt c42 0,loopAt c42 1] (fun n=>(.cons (f42.l0.ok n) (.cons (f42.l1.ok n) .nil)))
def f42.w:FnW E:=fnW 42 f42.P sg_ll f42.A f42.F f42.ok
def f93:Nat→Int→Option (Nat × List T)
 | 0,_=>none
 | n+1,i1 =>
   gd (decide ((0≤i1)∧(i1≤(2147483648:Int)))) (
   some ((Int.toNat i1),(reps (Int.toNat i1) [(T.flt .f32 0)])))
def f93.P:List Arg:=[qA20]
def f93.A:RAlt (Nat × List T):=.one ⟨[qV15],[none]⟩ sg_l
def f93.F (n:Nat) (v:Int):=f93 n v
def f93.O (n:Nat):Orc:=orcOf (E:=E) [] [] n
theorem f93.ok:FnS 93 f93.P sg_i f93.A f93.F:=fnS c93 f93.O
def f93.w:FnW E:=fnW 93 f93.P sg_i f93.A f93.F f93.ok
def f109:Nat→Int→Int→Nat→List T→Option (Nat × List T)
 | 0,_,_,_,_=>none
 | n+1,i1,i2,n3,l4 =>
   br (i1==(1:Int)) (
    bd (f93 n (2:Int)) fun r5 =>
    let n6:=r5.1
    let l7:=r5.2
    some (n6,l7)) (
    br (i1==(2:Int)) (
     bd (f93 n i2) fun r8 =>
     let n9:=r8.1
     let l10:=r8.2
     some (n9,l10)) (
     br (i1==(3:Int)) (
      bd (f93 n (1:Int)) fun r11 =>
      let n12:=r11.1
      let l13:=r11.2
      some (n12,l13)) (
      br (i1==(6:Int)) (
       bd (f93 n i2) fun r14 =>
       let n15:=r14.1
       let l16:=r14.2
       gd (Nat.ble (1+n15) 2147483648) (
       some ((1+n15),((setN (reps 1 [(T.flt .f32 0)]) 0 [(T.flt .f32 1065353216)])++l16)))) (
       some (0,[])))))
def f109.P:List Arg:=[qA24]
def f109.A:RAlt (Nat × List T):=.one ⟨[qV15],[none]⟩ sg_l
def f109.F (n:Nat) (v:Int × Int × Nat × List T):=f109 n v.1 v.2.1 v.2.2.1 v.2.2.2
def f109.O (n:Nat):Orc:=orcOf (E:=E) [f93.w] [] n
theorem f109.ok:FnS 109 f109.P sg_iil f109.A f109.F:=fnS c109 f109.O
def f109.w:FnW E:=fnW 109 f109.P sg_iil f109.A f109.F f109.ok
def f73.l0 (n:Nat):Nat→Nat→List T→Nat→List T→Nat→List T→Int→Int→Option (Nat × List T)
 | 0,_,_,_,_,_,_,_,_=>none
 | m+1,n1,l2,n3,l4,n5,l6,i7,i8 =>
   br (decide (i8<i7)) (
    gd ((decide ((0≤i8)∧(i8<(n5:Int))))&&(okAt [(CK.int .i64),(CK.int .i64),CK.lst] l6 (((Int.toNat i8) * 3)+0))) (
    let i9:=(iAt l6 (((Int.toNat i8) * 3)+0))
    let i10:=(iAt l6 ((((Int.toNat i8) * 3)+0)+1))
    let n11:=(nAt l6 (((((Int.toNat i8) * 3)+0)+1)+1))
    let l12:=(lAt l6 (((((Int.toNat i8) * 3)+0)+1)+1))
    bd (f109 n i9 i10 n11 l12) fun r13 =>
    let n14:=r13.1
    let l15:=r13.2
    gd (Nat.ble (n3+1) 2147483648) (
    let n16:=(n3+1)
    let l17:=(l4++(setN (reps 1 [(T.lst 0 [])]) 0 [(T.lst n14 l15)]))
    f73.l0 n m n1 l2 n16 l17 n5 l6 i7 (IntKind.i64.wrap (i8+(1:Int)))))) (
    some (n3,l4))
def f73:Nat→Nat→List T→Option (Nat × List T)
 | 0,_,_=>none
 | n+1,n1,l2 =>
   bd (f73.l0 n n n1 l2 0 [] n1 l2 (n1:Int) (0:Int)) fun r3 =>
   let n4:=r3.1
   let l5:=r3.2
   some (n4,l5)
def f73.l0.P:AS:=⟨[(0,qS34),(3,qS37),(6,qS34),(7,qS40),(8,qS40)],0⟩
def f73.l0.A:Alt (Nat × List T):=.one (.exit 0) ⟨[(3,qS37)],0⟩ sg_l
def f73.l0.F (n m:Nat) (v:Nat × List T × Nat × List T × Nat × List T × Int × Int):=f73.l0 n m v.1 v.2.1 v.2.2.1 v.2.2.2.1 v.2.2.2.2.1 v.2.2.2.2.2.1 v.2.2.2.2.2.2.1 v.2.2.2.2.2.2.2
def f73.l0.W (n:Nat):LpW:=.of 48 f73.l0.P sg_lllii f73.l0.A (f73.l0.F n n)
def f73.P:List Arg:=[qA21]
def f73.A:RAlt (Nat × List T):=.one ⟨[qV13],[none]⟩ sg_l
def f73.F (n:Nat) (v:Nat × List T):=f73 n v.1 v.2
def f73.O (n:Nat):Orc:=orcOf (E:=E) [f109.w] [f73.l0.W n] n
theorem f73.l0.ok:∀ n,LpS 73 c73 0 n (f73.O n):=lpS f73.l0.P sg_lllii f73.l0.A f73.l0.F
theorem f73.ok:FnS 73 f73.P sg_l f73.A f73.F:=fnS c73 f73.O [loopAt c73 0] (fun n=>(.cons (f73.l0.ok n) .nil))
def f73.w:FnW E:=fnW 73 f73.P sg_l f73.A f73.F f73.ok
def f57.l1 (n:Nat):Nat→Int→Int→Int→Nat→List T→Nat→List T→Nat→List T→Int→Int→Nat→List T→Nat→List T→Int→Int→Nat→List T→Int→Int→Option (Int × Int × Int × Nat × List T × Nat × List T × Nat × List T × Nat × List T × Int × Int)
 | 0,_,_,_,_,_,_,_,_,_,_,_,_,_,_,_,_,_,_,_,_,_=>none
 | m+1,i1,i2,i3,n4,l5,n6,l7,n8,l9,i10,i11,n12,l13,n14,l15,i16,i17,n18,l19,i20,i21 =>
   br (decide (i21<i20)) (
    gd ((decide ((0≤i21)∧(i21<(n18:Int))))&&(okAt [(CK.flt .f32)] l19 (Int.toNat i21))) (
    let x22:=(fAt l19 (Int.toNat i21))
    let i23:=(IntKind.i64.wrap ((IntKind.i64.wrap (i11+i21)) - i2))
    bd (f92 n i23 (0:Int) (IntKind.i64.wrap (i3 - (1:Int)))) fun r24 =>
    let b25:=r24
    br b25 (
     gd (decide ((0≤i23)∧(i23<(n8:Int)))) (
     gd (okAt [(CK.flt .f32)] l9 (Int.toNat i23)) (
     gd (decide ((0≤i23)∧(i23<(n8:Int)))) (
     gd (Nat.ble ((Int.toNat i23)+1) (List.length l9)) (
     let l26:=(setN l9 (Int.toNat i23) [(T.flt .f32 (fadd .f32 (fAt l9 (Int.toNat i23)) x22))])
     f57.l1 n m i1 i2 i3 n4 l5 n6 l7 n8 l26 i10 i11 n12 l13 n14 l15 i16 i17 n18 l19 i20 (IntKind.i64.wrap (i21+(1:Int)))))))) (
     f57.l1 n m i1 i2 i3 n4 l5 n6 l7 n8 l9 i10 i11 n12 l13 n14 l15 i16 i17 n18 l19 i20 (IntKind.i64.wrap (i21+(1:Int)))))) (
    some (i1,i2,i3,n4,l5,n6,l7,n8,l9,n14,l15,i16,i17))
termination_by structural x=>x
def f57.l0 (n:Nat):Nat→Int→Int→Int→Nat→List T→Nat→List T→Nat→List T→Nat→List T→Int→Int→Option (Nat × List T)
 | 0,_,_,_,_,_,_,_,_,_,_,_,_,_=>none
 | m+1,i1,i2,i3,n4,l5,n6,l7,n8,l9,n10,l11,i12,i13 =>
   br (decide (i13<i12)) (
    gd ((decide ((0≤i13)∧(i13<(n10:Int))))&&(okAt [(CK.int .i64),(CK.int .i64),CK.lst] l11 (((Int.toNat i13) * 3)+0))) (
    let i14:=(iAt l11 (((Int.toNat i13) * 3)+0))
    let i15:=(iAt l11 ((((Int.toNat i13) * 3)+0)+1))
    let n16:=(nAt l11 (((((Int.toNat i13) * 3)+0)+1)+1))
    let l17:=(lAt l11 (((((Int.toNat i13) * 3)+0)+1)+1))
    br (i14 != i1) (
     f57.l0 n m i1 i2 i3 n4 l5 n6 l7 n8 l9 n10 l11 i12 (IntKind.i64.wrap (i13+(1:Int)))) (
     bd (f57.l1 n n i1 i2 i3 n4 l5 n6 l7 n8 l9 i14 i15 n16 l17 n10 l11 i12 i13 n16 l17 (n16:Int) (0:Int)) fun r18 =>
     let i19:=r18.1
     let i20:=r18.2.1
     let i21:=r18.2.2.1
     let n22:=r18.2.2.2.1
     let l23:=r18.2.2.2.2.1
     let n24:=r18.2.2.2.2.2.1
     let l25:=r18.2.2.2.2.2.2.1
     let n26:=r18.2.2.2.2.2.2.2.1
     let l27:=r18.2.2.2.2.2.2.2.2.1
     let n28:=r18.2.2.2.2.2.2.2.2.2.1
     let l29:=r18.2.2.2.2.2.2.2.2.2.2.1
     let i30:=r18.2.2.2.2.2.2.2.2.2.2.2.1
     let i31:=r18.2.2.2.2.2.2.2.2.2.2.2.2
     f57.l0 n m i19 i20 i21 n22 l23 n24 l25 n26 l27 n28 l29 i30 (IntKind.i64.wrap (i31+(1:Int)))))) (
    some (n8,l9))
termination_by structural x=>x
def f57:Nat→Nat→List T→Nat→List T→Int→Int→Int→Option (Nat × List T)
 | 0,_,_,_,_,_,_,_=>none
 | n+1,n1,l2,n3,l4,i5,i6,i7 =>
   bd (f93 n i7) fun r8 =>
   let n9:=r8.1
   let l10:=r8.2
   bd (f57.l0 n n i5 i6 i7 n1 l2 n3 l4 n9 l10 n1 l2 (n1:Int) (0:Int)) fun r11 =>
   let n12:=r11.1
   let l13:=r11.2
   some (n12,l13)
def sg_iiillliilliilii:Sig (Int × Int × Int × Nat × List T × Nat × List T × Nat × List T × Int × Int × Nat × List T × Nat × List T × Int × Int × Nat × List T × Int × Int) where
 pk:=fun v=>[.int v.1,.int v.2.1,.int v.2.2.1,.lst v.2.2.2.1 v.2.2.2.2.1,.lst v.2.2.2.2.2.1 v.2.2.2.2.2.2.1,.lst v.2.2.2.2.2.2.2.1 v.2.2.2.2.2.2.2.2.1,.int v.2.2.2.2.2.2.2.2.2.1,.int v.2.2.2.2.2.2.2.2.2.2.1,.lst v.2.2.2.2.2.2.2.2.2.2.2.1 v.2.2.2.2.2.2.2.2.2.2.2.2.1,.lst v.2.2.2.2.2.2.2.2.2.2.2.2.2.1 v.2.2.2.2.2.2.2.2.2.2.2.2.2.2.1,.int v.2.2.2.2.2.2.2.2.2.2.2.2.2.2.2.1,.int v.2.2.2.2.2.2.2.2.2.2.2.2.2.2.2.2.1,.lst v.2.2.2.2.2.2.2.2.2.2.2.2.2.2.2.2.2.1 v.2.2.2.2.2.2.2.2.2.2.2.2.2.2.2.2.2.2.1,.int v.2.2.2.2.2.2.2.2.2.2.2.2.2.2.2.2.2.2.2.1,.int v.2.2.2.2.2.2.2.2.2.2.2.2.2.2.2.2.2.2.2.2]
 up:=fun ls=>match ls with
  | [.int a0,.int a1,.int a2,.lst a3 a4,.lst a5 a6,.lst a7 a8,.int a9,.int a10,.lst a11 a12,.lst a13 a14,.int a15,.int a16,.lst a17 a18,.int a19,.int a20]=>some (a0,a1,a2,a3,a4,a5,a6,a7,a8,a9,a10,a11,a12,a13,a14,a15,a16,a17,a18,a19,a20)
  | _=>none
 ok:=by intro _ _ h;split at h <;>cases h;rfl
def sg_iiillllii:Sig (Int × Int × Int × Nat × List T × Nat × List T × Nat × List T × Nat × List T × Int × Int) where
 pk:=fun v=>[.int v.1,.int v.2.1,.int v.2.2.1,.lst v.2.2.2.1 v.2.2.2.2.1,.lst v.2.2.2.2.2.1 v.2.2.2.2.2.2.1,.lst v.2.2.2.2.2.2.2.1 v.2.2.2.2.2.2.2.2.1,.lst v.2.2.2.2.2.2.2.2.2.1 v.2.2.2.2.2.2.2.2.2.2.1,.int v.2.2.2.2.2.2.2.2.2.2.2.1,.int v.2.2.2.2.2.2.2.2.2.2.2.2]
 up:=fun ls=>match ls with
  | [.int a0,.int a1,.int a2,.lst a3 a4,.lst a5 a6,.lst a7 a8,.lst a9 a10,.int a11,.int a12]=>some (a0,a1,a2,a3,a4,a5,a6,a7,a8,a9,a10,a11,a12)
  | _=>none
 ok:=by intro _ _ h;split at h <;>cases h;rfl
def f57.l1.P:AS:=⟨[(1,qS40),(2,qS40),(3,qS40),(4,.box [.sl .shr [.leaf,.leaf,.sl .shr [.leaf]],.sl .shr [.sl .shr [.leaf,.leaf,.sl .shr [.leaf]],.leaf,.leaf,.leaf,.leaf]] [.lst 0 [],.lst 0 []] [] 0),(9,qS39),(11,.box [.leaf,.leaf,.sl .shr [.leaf]] [.int .i64 0,.int .i64 0,.lst 0 []] [] 0),(18,qS34),(19,qS40),(20,qS40),(29,qS38),(30,qS40),(31,qS40)],0⟩
def f57.l1.A:Alt (Int × Int × Int × Nat × List T × Nat × List T × Nat × List T × Nat × List T × Int × Int):=.one (.exit 2) ⟨[(1,qS40),(2,qS40),(3,qS40),(4,.box [.sl .shr [.leaf,.leaf,.sl .shr [.leaf]],.sl .shr [.sl .shr [.leaf,.leaf,.sl .shr [.leaf]],.leaf,.leaf,.leaf,.leaf]] [.lst 0 [],.lst 0 []] [] 0),(9,qS39),(18,qS34),(19,qS40),(20,qS40),(53,.dead),(54,.dead)],0⟩ sg_iiillllii
def f57.l1.F (n m:Nat) (v:Int × Int × Int × Nat × List T × Nat × List T × Nat × List T × Int × Int × Nat × List T × Nat × List T × Int × Int × Nat × List T × Int × Int):=f57.l1 n m v.1 v.2.1 v.2.2.1 v.2.2.2.1 v.2.2.2.2.1 v.2.2.2.2.2.1 v.2.2.2.2.2.2.1 v.2.2.2.2.2.2.2.1 v.2.2.2.2.2.2.2.2.1 v.2.2.2.2.2.2.2.2.2.1 v.2.2.2.2.2.2.2.2.2.2.1 v.2.2.2.2.2.2.2.2.2.2.2.1 v.2.2.2.2.2.2.2.2.2.2.2.2.1 v.2.2.2.2.2.2.2.2.2.2.2.2.2.1 v.2.2.2.2.2.2.2.2.2.2.2.2.2.2.1 v.2.2.2.2.2.2.2.2.2.2.2.2.2.2.2.1 v.2.2.2.2.2.2.2.2.2.2.2.2.2.2.2.2.1 v.2.2.2.2.2.2.2.2.2.2.2.2.2.2.2.2.2.1 v.2.2.2.2.2.2.2.2.2.2.2.2.2.2.2.2.2.2.1 v.2.2.2.2.2.2.2.2.2.2.2.2.2.2.2.2.2.2.2.1 v.2.2.2.2.2.2.2.2.2.2.2.2.2.2.2.2.2.2.2.2
def f57.l1.W (n:Nat):LpW:=.of 112 f57.l1.P sg_iiillliilliilii f57.l1.A (f57.l1.F n n)
def f57.l0.P:AS:=⟨[(1,qS40),(2,qS40),(3,qS40),(4,.box [.sl .shr [.leaf,.leaf,.sl .shr [.leaf]],.sl .shr [.sl .shr [.leaf,.leaf,.sl .shr [.leaf]],.leaf,.leaf,.leaf,.leaf]] [.lst 0 [],.lst 0 []] [] 0),(9,qS39),(18,qS34),(19,qS40),(20,qS40)],0⟩
def f57.l0.A:Alt (Nat × List T):=.one (.exit 0) ⟨[(9,qS39)],0⟩ sg_l
def f57.l0.F (n m:Nat) (v:Int × Int × Int × Nat × List T × Nat × List T × Nat × List T × Nat × List T × Int × Int):=f57.l0 n m v.1 v.2.1 v.2.2.1 v.2.2.2.1 v.2.2.2.2.1 v.2.2.2.2.2.1 v.2.2.2.2.2.2.1 v.2.2.2.2.2.2.2.1 v.2.2.2.2.2.2.2.2.1 v.2.2.2.2.2.2.2.2.2.1 v.2.2.2.2.2.2.2.2.2.2.1 v.2.2.2.2.2.2.2.2.2.2.2.1 v.2.2.2.2.2.2.2.2.2.2.2.2
def f57.l0.W (n:Nat):LpW:=.of 48 f57.l0.P sg_iiillllii f57.l0.A (f57.l0.F n n)
def f57.P:List Arg:=[qA27,qA20,qA20,qA20]
def f57.A:RAlt (Nat × List T):=.one ⟨[qV15],[none,none,none,none]⟩ sg_l
def f57.F (n:Nat) (v:Nat × List T × Nat × List T × Int × Int × Int):=f57 n v.1 v.2.1 v.2.2.1 v.2.2.2.1 v.2.2.2.2.1 v.2.2.2.2.2.1 v.2.2.2.2.2.2
def f57.O (n:Nat):Orc:=orcOf (E:=E) [f92.w,f93.w] [f57.l1.W n,f57.l0.W n] n
theorem f57.l1.ok:∀ n,LpS 57 c57 1 n (f57.O n):=lpS f57.l1.P sg_iiillliilliilii f57.l1.A f57.l1.F
theorem f57.l0.ok:∀ n,LpS 57 c57 0 n (f57.O n):=lpS f57.l0.P sg_iiillllii f57.l0.A f57.l0.F [loopAt c57 1] (fun n=>(.cons (f57.l1.ok n) .nil))
theorem f57.ok:FnS 57 f57.P sg_lliii f57.A f57.F:=fnS c57 f57.O [loopAt c57 0] (fun n=>(.cons (f57.l0.ok n) .nil))
def f57.w:FnW E:=fnW 57 f57.P sg_lliii f57.A f57.F f57.ok
def f130.l0 (n:Nat):Nat→Nat→List T→Nat→Nat→List T→Nat→List T→Int→Int→Option (Nat × List T)
 | 0,_,_,_,_,_,_,_,_,_=>none
 | m+1,n1,l2,x3,n4,l5,n6,l7,i8,i9 =>
   br (decide (i9<i8)) (
    gd ((decide ((0≤i9)∧(i9<(n6:Int))))&&(okAt [(CK.flt .f32)] l7 (Int.toNat i9))) (
    let x10:=(fAt l7 (Int.toNat i9))
    gd (Nat.ble (n4+1) 2147483648) (
    let n11:=(n4+1)
    let l12:=(l5++(setN (reps 1 [(T.flt .f32 0)]) 0 [(T.flt .f32 (fmul .f32 x10 x3))]))
    f130.l0 n m n1 l2 x3 n11 l12 n6 l7 i8 (IntKind.i64.wrap (i9+(1:Int)))))) (
    some (n4,l5))
def f130:Nat→Nat→List T→Nat→Option (Nat × List T)
 | 0,_,_,_=>none
 | n+1,n1,l2,x3 =>
   bd (f130.l0 n n n1 l2 x3 0 [] n1 l2 (n1:Int) (0:Int)) fun r4 =>
   let n5:=r4.1
   let l6:=r4.2
   some (n5,l6)
def sg_lfllii:Sig (Nat × List T × Nat × Nat × List T × Nat × List T × Int × Int) where
 pk:=fun v=>[.lst v.1 v.2.1,.flt v.2.2.1,.lst v.2.2.2.1 v.2.2.2.2.1,.lst v.2.2.2.2.2.1 v.2.2.2.2.2.2.1,.int v.2.2.2.2.2.2.2.1,.int v.2.2.2.2.2.2.2.2]
 up:=fun ls=>match ls with
  | [.lst a0 a1,.flt a2,.lst a3 a4,.lst a5 a6,.int a7,.int a8]=>some (a0,a1,a2,a3,a4,a5,a6,a7,a8)
  | _=>none
 ok:=by intro _ _ h;split at h <;>cases h;rfl
def f130.l0.P:AS:=⟨[(0,qS38),(1,qS42),(5,qS39),(8,qS38),(9,qS40),(10,qS40)],0⟩
def f130.l0.A:Alt (Nat × List T):=.one (.exit 0) ⟨[(5,qS39)],0⟩ sg_l
def f130.l0.F (n m:Nat) (v:Nat × List T × Nat × Nat × List T × Nat × List T × Int × Int):=f130.l0 n m v.1 v.2.1 v.2.2.1 v.2.2.2.1 v.2.2.2.2.1 v.2.2.2.2.2.1 v.2.2.2.2.2.2.1 v.2.2.2.2.2.2.2.1 v.2.2.2.2.2.2.2.2
def f130.l0.W (n:Nat):LpW:=.of 48 f130.l0.P sg_lfllii f130.l0.A (f130.l0.F n n)
def f130.P:List Arg:=[qA19,qA22]
def f130.A:RAlt (Nat × List T):=.one ⟨[qV15],[none,none]⟩ sg_l
def f130.F (n:Nat) (v:Nat × List T × Nat):=f130 n v.1 v.2.1 v.2.2
def f130.O (n:Nat):Orc:=orcOf (E:=E) [] [f130.l0.W n] n
theorem f130.l0.ok:∀ n,LpS 130 c130 0 n (f130.O n):=lpS f130.l0.P sg_lfllii f130.l0.A f130.l0.F
theorem f130.ok:FnS 130 f130.P sg_lf f130.A f130.F:=fnS c130 f130.O [loopAt c130 0] (fun n=>(.cons (f130.l0.ok n) .nil))
def f130.w:FnW E:=fnW 130 f130.P sg_lf f130.A f130.F f130.ok
def f160:Nat→Nat→Option (Bool)
 | 0,_=>none
 | n+1,x1 =>
   br (fne .f32 x1 0) (
    br (flt .f32 x1 8388608) (
     some (fgt .f32 x1 2155872256)) (
     some false)) (
    some false)
def f160.P:List Arg:=[qA22]
def f160.A:RAlt (Bool):=.one ⟨[qV17],[none]⟩ sg_b
def f160.F (n:Nat) (v:Nat):=f160 n v
def f160.O (n:Nat):Orc:=orcOf (E:=E) [] [] n
theorem f160.ok:FnS 160 f160.P sg_f f160.A f160.F:=fnS c160 f160.O
def f160.w:FnW E:=fnW 160 f160.P sg_f f160.A f160.F f160.ok
def f133:Nat→Nat→Option (Nat)
 | 0,_=>none
 | n+1,x1 =>
   bd (f160 n x1) fun r2 =>
   let b3:=r2
   br (!b3) (
    some x1) (
    bd ((fltToFlt .f32 x1 .f64)) fun y4 =>
    bd (xCopysign n 0 y4) fun r5 =>
    let x6:=r5
    bd ((fltToFlt .f64 x6 .f32)) fun y7 =>
    some y7)
def f133.P:List Arg:=[qA22]
def f133.A:RAlt (Nat):=.one ⟨[qV18],[none]⟩ sg_f
def f133.F (n:Nat) (v:Nat):=f133 n v
def f133.O (n:Nat):Orc:=orcOf (E:=E) [x161.w,f160.w] [] n
theorem f133.ok:FnS 133 f133.P sg_f f133.A f133.F:=fnS c133 f133.O
def f133.w:FnW E:=fnW 133 f133.P sg_f f133.A f133.F f133.ok
def f173:Nat→Nat→Bool→Option (Nat)
 | 0,_,_=>none
 | n+1,x1,b2 =>
   br b2 (
    bd (f133 n x1) fun r3 =>
    let x4:=r3
    some x4) (
    some x1)
def f173.P:List Arg:=[qA22,qA23]
def f173.A:RAlt (Nat):=.one ⟨[qV18],[none,none]⟩ sg_f
def f173.F (n:Nat) (v:Nat × Bool):=f173 n v.1 v.2
def f173.O (n:Nat):Orc:=orcOf (E:=E) [f133.w] [] n
theorem f173.ok:FnS 173 f173.P sg_fb f173.A f173.F:=fnS c173 f173.O
def f173.w:FnW E:=fnW 173 f173.P sg_fb f173.A f173.F f173.ok
def f159:Nat→Nat→Nat→Nat→Nat→Nat→Int→Bool→Nat→Nat→Nat→Nat→Nat→Option (Nat × Nat × Nat × Nat × Nat)
 | 0,_,_,_,_,_,_,_,_,_,_,_,_=>none
 | n+1,x1,x2,x3,x4,x5,i6,b7,x8,x9,x10,x11,x12 =>
   br (i6==(0:Int)) (
    let x13:=(fsub .f32 (fsub .f32 (fadd .f32 (fadd .f32 (fmul .f32 x1 x12) (fmul .f32 x2 x8)) (fmul .f32 x3 x9)) (fmul .f32 x4 x10)) (fmul .f32 x5 x11))
    bd (f173 n x13 b7) fun r14 =>
    let x15:=r14
    bd (f173 n x12 b7) fun r16 =>
    let x17:=r16
    bd (f173 n x8 b7) fun r18 =>
    let x19:=r18
    bd (f173 n x15 b7) fun r20 =>
    let x21:=r20
    bd (f173 n x10 b7) fun r22 =>
    let x23:=r22
    some (x15,x17,x19,x21,x23)) (
    br (i6==(1:Int)) (
     bd (f173 n (fadd .f32 (fmul .f32 x1 x12) x8) b7) fun r24 =>
     let x25:=r24
     let x26:=(fadd .f32 (fsub .f32 (fmul .f32 x2 x12) (fmul .f32 x4 x25)) x9)
     let x27:=(fsub .f32 (fmul .f32 x3 x12) (fmul .f32 x5 x25))
     bd (f173 n x26 b7) fun r28 =>
     let x29:=r28
     bd (f173 n x27 b7) fun r30 =>
     let x31:=r30
     bd (f173 n 0 b7) fun r32 =>
     let x33:=r32
     bd (f173 n 0 b7) fun r34 =>
     let x35:=r34
     some (x25,x29,x31,x33,x35)) (
     bd (f173 n (fsub .f32 (fsub .f32 x12 (fmul .f32 x4 x8)) (fmul .f32 x5 x9)) b7) fun r36 =>
     let x37:=r36
     bd (f173 n (fadd .f32 (fadd .f32 (fmul .f32 x1 x37) (fmul .f32 x2 x8)) (fmul .f32 x3 x9)) b7) fun r38 =>
     let x39:=r38
     bd (f173 n x37 b7) fun r40 =>
     let x41:=r40
     bd (f173 n x8 b7) fun r42 =>
     let x43:=r42
     bd (f173 n 0 b7) fun r44 =>
     let x45:=r44
     bd (f173 n 0 b7) fun r46 =>
     let x47:=r46
     some (x39,x41,x43,x45,x47)))
def f159.P:List Arg:=[qA31,qA20,qA23,qA30,qA22]
def f159.A:RAlt (Nat × Nat × Nat × Nat × Nat):=.one ⟨[qV18,qV8],[none,none,none,none,none]⟩ sg_fffff
def f159.F (n:Nat) (v:Nat × Nat × Nat × Nat × Nat × Int × Bool × Nat × Nat × Nat × Nat × Nat):=f159 n v.1 v.2.1 v.2.2.1 v.2.2.2.1 v.2.2.2.2.1 v.2.2.2.2.2.1 v.2.2.2.2.2.2.1 v.2.2.2.2.2.2.2.1 v.2.2.2.2.2.2.2.2.1 v.2.2.2.2.2.2.2.2.2.1 v.2.2.2.2.2.2.2.2.2.2.1 v.2.2.2.2.2.2.2.2.2.2.2
def f159.O (n:Nat):Orc:=orcOf (E:=E) [f173.w] [] n
theorem f159.ok:FnS 159 f159.P sg_fffffibfffff f159.A f159.F:=fnS c159 f159.O
def f159.w:FnW E:=fnW 159 f159.P sg_fffffibfffff f159.A f159.F f159.ok
def f131.l0 (n:Nat):Nat→Int→Bool→Nat→List T→Nat→Nat→Nat→Nat→Nat→Nat→Nat→Nat→Nat→Nat→Nat→Nat→Nat→Nat→List T→Nat→List T→Int→Int→Option (Nat × Nat × Nat × Nat × Nat × Nat × Nat × Nat × Nat × List T)
 | 0,_,_,_,_,_,_,_,_,_,_,_,_,_,_,_,_,_,_,_,_,_,_,_=>none
 | m+1,i1,b2,n3,l4,x5,x6,x7,x8,x9,x10,x11,x12,x13,x14,x15,x16,x17,n18,l19,n20,l21,i22,i23 =>
   br (decide (i23<i22)) (
    gd ((decide ((0≤i23)∧(i23<(n20:Int))))&&(okAt [(CK.flt .f32)] l21 (Int.toNat i23))) (
    let x24:=(fAt l21 (Int.toNat i23))
    bd (f159 n x5 x6 x7 x8 x9 i1 b2 x10 x11 x12 x13 x24) fun r25 =>
    let x26:=r25.1
    let x27:=r25.2.1
    let x28:=r25.2.2.1
    let x29:=r25.2.2.2.1
    let x30:=r25.2.2.2.2
    gd (Nat.ble (n18+1) 2147483648) (
    let n31:=(n18+1)
    let l32:=(l19++(setN (reps 1 [(T.flt .f32 0)]) 0 [(T.flt .f32 x26)]))
    f131.l0 n m i1 b2 n3 l4 x5 x6 x7 x8 x9 x27 x28 x29 x30 x14 x15 x16 x17 n31 l32 n20 l21 i22 (IntKind.i64.wrap (i23+(1:Int)))))) (
    some (x10,x11,x12,x13,x14,x15,x16,x17,n18,l19))
termination_by structural x=>x
def f131:Nat→Nat→Nat→Nat→Nat→Nat→Int→Bool→Nat→Nat→Nat→Nat→Nat→List T→Option (Nat × List T × Nat × Nat × Nat × Nat)
 | 0,_,_,_,_,_,_,_,_,_,_,_,_,_=>none
 | n+1,x1,x2,x3,x4,x5,i6,b7,x8,x9,x10,x11,n12,l13 =>
   bd (f131.l0 n n i6 b7 n12 l13 x1 x2 x3 x4 x5 x8 x9 x10 x11 0 0 0 0 0 [] n12 l13 (n12:Int) (0:Int)) fun r14 =>
   let x15:=r14.1
   let x16:=r14.2.1
   let x17:=r14.2.2.1
   let x18:=r14.2.2.2.1
   let n23:=r14.2.2.2.2.2.2.2.2.1
   let l24:=r14.2.2.2.2.2.2.2.2.2
   some (n23,l24,x15,x16,x17,x18)
def sg_iblfffffffffffffllii:Sig (Int × Bool × Nat × List T × Nat × Nat × Nat × Nat × Nat × Nat × Nat × Nat × Nat × Nat × Nat × Nat × Nat × Nat × List T × Nat × List T × Int × Int) where
 pk:=fun v=>[.int v.1,.bool v.2.1,.lst v.2.2.1 v.2.2.2.1,.flt v.2.2.2.2.1,.flt v.2.2.2.2.2.1,.flt v.2.2.2.2.2.2.1,.flt v.2.2.2.2.2.2.2.1,.flt v.2.2.2.2.2.2.2.2.1,.flt v.2.2.2.2.2.2.2.2.2.1,.flt v.2.2.2.2.2.2.2.2.2.2.1,.flt v.2.2.2.2.2.2.2.2.2.2.2.1,.flt v.2.2.2.2.2.2.2.2.2.2.2.2.1,.flt v.2.2.2.2.2.2.2.2.2.2.2.2.2.1,.flt v.2.2.2.2.2.2.2.2.2.2.2.2.2.2.1,.flt v.2.2.2.2.2.2.2.2.2.2.2.2.2.2.2.1,.flt v.2.2.2.2.2.2.2.2.2.2.2.2.2.2.2.2.1,.lst v.2.2.2.2.2.2.2.2.2.2.2.2.2.2.2.2.2.1 v.2.2.2.2.2.2.2.2.2.2.2.2.2.2.2.2.2.2.1,.lst v.2.2.2.2.2.2.2.2.2.2.2.2.2.2.2.2.2.2.2.1 v.2.2.2.2.2.2.2.2.2.2.2.2.2.2.2.2.2.2.2.2.1,.int v.2.2.2.2.2.2.2.2.2.2.2.2.2.2.2.2.2.2.2.2.2.1,.int v.2.2.2.2.2.2.2.2.2.2.2.2.2.2.2.2.2.2.2.2.2.2]
 up:=fun ls=>match ls with
  | [.int a0,.bool a1,.lst a2 a3,.flt a4,.flt a5,.flt a6,.flt a7,.flt a8,.flt a9,.flt a10,.flt a11,.flt a12,.flt a13,.flt a14,.flt a15,.flt a16,.lst a17 a18,.lst a19 a20,.int a21,.int a22]=>some (a0,a1,a2,a3,a4,a5,a6,a7,a8,a9,a10,a11,a12,a13,a14,a15,a16,a17,a18,a19,a20,a21,a22)
  | _=>none
 ok:=by intro _ _ h;split at h <;>cases h;rfl
def f131.l0.P:AS:=⟨[(1,qS40),(2,qS41),(4,qS38),(5,.box [.leaf,.leaf,.leaf,.leaf,.leaf] [.flt .f32 0,.flt .f32 0,.flt .f32 0,.flt .f32 0,.flt .f32 0] [] 0),(8,.box [.leaf,.leaf,.leaf,.leaf] [.flt .f32 0,.flt .f32 0,.flt .f32 0,.flt .f32 0] [] 0),(11,.box [.leaf,.leaf,.leaf,.leaf] [.flt .f32 0,.flt .f32 0,.flt .f32 0,.flt .f32 0] [] 0),(12,qS39),(17,qS38),(18,qS40),(19,qS40)],0⟩
def f131.l0.A:Alt (Nat × Nat × Nat × Nat × Nat × Nat × Nat × Nat × Nat × List T):=.one (.exit 0) ⟨[(8,.box [.leaf,.leaf,.leaf,.leaf] [.flt .f32 0,.flt .f32 0,.flt .f32 0,.flt .f32 0] [] 0),(11,.box [.leaf,.leaf,.leaf,.leaf] [.flt .f32 0,.flt .f32 0,.flt .f32 0,.flt .f32 0] [] 0),(12,qS39)],0⟩ sg_ffffffffl
def f131.l0.F (n m:Nat) (v:Int × Bool × Nat × List T × Nat × Nat × Nat × Nat × Nat × Nat × Nat × Nat × Nat × Nat × Nat × Nat × Nat × Nat × List T × Nat × List T × Int × Int):=f131.l0 n m v.1 v.2.1 v.2.2.1 v.2.2.2.1 v.2.2.2.2.1 v.2.2.2.2.2.1 v.2.2.2.2.2.2.1 v.2.2.2.2.2.2.2.1 v.2.2.2.2.2.2.2.2.1 v.2.2.2.2.2.2.2.2.2.1 v.2.2.2.2.2.2.2.2.2.2.1 v.2.2.2.2.2.2.2.2.2.2.2.1 v.2.2.2.2.2.2.2.2.2.2.2.2.1 v.2.2.2.2.2.2.2.2.2.2.2.2.2.1 v.2.2.2.2.2.2.2.2.2.2.2.2.2.2.1 v.2.2.2.2.2.2.2.2.2.2.2.2.2.2.2.1 v.2.2.2.2.2.2.2.2.2.2.2.2.2.2.2.2.1 v.2.2.2.2.2.2.2.2.2.2.2.2.2.2.2.2.2.1 v.2.2.2.2.2.2.2.2.2.2.2.2.2.2.2.2.2.2.1 v.2.2.2.2.2.2.2.2.2.2.2.2.2.2.2.2.2.2.2.1 v.2.2.2.2.2.2.2.2.2.2.2.2.2.2.2.2.2.2.2.2.1 v.2.2.2.2.2.2.2.2.2.2.2.2.2.2.2.2.2.2.2.2.2.1 v.2.2.2.2.2.2.2.2.2.2.2.2.2.2.2.2.2.2.2.2.2.2
def f131.l0.W (n:Nat):LpW:=.of 48 f131.l0.P sg_iblfffffffffffffllii f131.l0.A (f131.l0.F n n)
def f131.P:List Arg:=[qA31,qA20,qA23,qA30,qA19]
def f131.A:RAlt (Nat × List T × Nat × Nat × Nat × Nat):=.one ⟨[qV15,qV8],[none,none,none,none,none]⟩ sg_lffff
def f131.F (n:Nat) (v:Nat × Nat × Nat × Nat × Nat × Int × Bool × Nat × Nat × Nat × Nat × Nat × List T):=f131 n v.1 v.2.1 v.2.2.1 v.2.2.2.1 v.2.2.2.2.1 v.2.2.2.2.2.1 v.2.2.2.2.2.2.1 v.2.2.2.2.2.2.2.1 v.2.2.2.2.2.2.2.2.1 v.2.2.2.2.2.2.2.2.2.1 v.2.2.2.2.2.2.2.2.2.2.1 v.2.2.2.2.2.2.2.2.2.2.2.1 v.2.2.2.2.2.2.2.2.2.2.2.2
def f131.O (n:Nat):Orc:=orcOf (E:=E) [f159.w] [f131.l0.W n] n
theorem f131.l0.ok:∀ n,LpS 131 c131 0 n (f131.O n):=lpS f131.l0.P sg_iblfffffffffffffllii f131.l0.A f131.l0.F
theorem f131.ok:FnS 131 f131.P sg_fffffibffffl f131.A f131.F:=fnS c131 f131.O [loopAt c131 0] (fun n=>(.cons (f131.l0.ok n) .nil))
def f131.w:FnW E:=fnW 131 f131.P sg_fffffibffffl f131.A f131.F f131.ok
def f132:Nat→Nat→List T→Nat→Option (Nat × List T)
 | 0,_,_,_=>none
 | n+1,n1,l2,x3 =>
   gd (decide ((0≤(1:Int))∧(((1:Int)≤(n1:Int))∧((n1:Int)≤(n1:Int))))) (
   bd (f79 n (n1 - 1) (List.take (n1 - 1) (List.drop 1 l2))) fun r4 =>
   let n5:=r4.1
   let l6:=r4.2
   gd (Nat.ble (n5+1) 2147483648) (
   some ((n5+1),(l6++(setN (reps 1 [(T.flt .f32 0)]) 0 [(T.flt .f32 x3)])))))
def f132.P:List Arg:=[qA19,qA22]
def f132.A:RAlt (Nat × List T):=.one ⟨[qV15],[none,none]⟩ sg_l
def f132.F (n:Nat) (v:Nat × List T × Nat):=f132 n v.1 v.2.1 v.2.2
def f132.O (n:Nat):Orc:=orcOf (E:=E) [f79.w] [] n
theorem f132.ok:FnS 132 f132.P sg_lf f132.A f132.F:=fnS c132 f132.O
def f132.w:FnW E:=fnW 132 f132.P sg_lf f132.A f132.F f132.ok
def f108.l0 (n:Nat):Nat→Nat→List T→Nat→List T→Nat→List T→Nat→List T→Nat→List T→Int→Int→Option (Nat × List T × Nat × List T)
 | 0,_,_,_,_,_,_,_,_,_,_,_,_=>none
 | m+1,n1,l2,n3,l4,n5,l6,n7,l8,n9,l10,i11,i12 =>
   br (decide (i12<i11)) (
    gd ((decide ((0≤i12)∧(i12<(n9:Int))))&&(okAt [(CK.flt .f32)] l10 (Int.toNat i12))) (
    let x13:=(fAt l10 (Int.toNat i12))
    gd (decide ((0≤(0:Int))∧((0:Int)<(n5:Int)))) (
    gd (okAt [(CK.flt .f32)] l6 0) (
    let x14:=(fAt l6 0)
    gd ((decide ((0≤(1:Int))∧((1:Int)<(n3:Int))))&&(okAt [(CK.flt .f32)] l4 1)) (
    gd (Nat.ble (n7+1) 2147483648) (
    let n15:=(n7+1)
    let l16:=(l8++(setN (reps 1 [(T.flt .f32 0)]) 0 [(T.flt .f32 (fadd .f32 x13 (fmul .f32 (fAt l4 1) x14)))]))
    gd ((decide ((0≤(0:Int))∧((0:Int)<(n3:Int))))&&(okAt [(CK.flt .f32)] l4 0)) (
    bd (f133 n (fadd .f32 x13 (fmul .f32 (fAt l4 0) x14))) fun r17 =>
    let x18:=r17
    bd (f132 n n5 l6 x18) fun r19 =>
    let n20:=r19.1
    let l21:=r19.2
    f108.l0 n m n1 l2 n3 l4 n20 l21 n15 l16 n9 l10 i11 (IntKind.i64.wrap (i12+(1:Int)))))))))) (
    some (n5,l6,n7,l8))
termination_by structural x=>x
def f177:Nat→Nat→Option (Nat)
 | 0,_=>none
 | n+1,x1 =>
   bd ((fltToFlt .f32 x1 .f64)) fun y2 =>
   bd (xAbs n y2) fun r3 =>
   let x4:=r3
   bd ((fltToFlt .f64 x4 .f32)) fun y5 =>
   some y5
def f177.P:List Arg:=[qA22]
def f177.A:RAlt (Nat):=.one ⟨[qV18],[none]⟩ sg_f
def f177.F (n:Nat) (v:Nat):=f177 n v
def f177.O (n:Nat):Orc:=orcOf (E:=E) [x170.w] [] n
theorem f177.ok:FnS 177 f177.P sg_f f177.A f177.F:=fnS c177 f177.O
def f177.w:FnW E:=fnW 177 f177.P sg_f f177.A f177.F f177.ok
def f175:Nat→Nat→Nat→Nat→Nat→Option (Nat × Nat × Nat)
 | 0,_,_,_,_=>none
 | n+1,x1,x2,x3,x4 =>
   bd (f177 n x4) fun r5 =>
   let x6:=r5
   br (fgt .f32 x6 x3) (
    bd (f133 n (fadd .f32 x3 (fmul .f32 x1 (fsub .f32 x6 x3)))) fun r7 =>
    let x8:=r7
    some (x1,x2,x8)) (
    bd (f133 n (fadd .f32 x3 (fmul .f32 x2 (fsub .f32 x6 x3)))) fun r9 =>
    let x10:=r9
    some (x1,x2,x10))
def sg_ffff:Sig (Nat × Nat × Nat × Nat) where
 pk:=fun v=>[.flt v.1,.flt v.2.1,.flt v.2.2.1,.flt v.2.2.2]
 up:=fun ls=>match ls with
  | [.flt a0,.flt a1,.flt a2,.flt a3]=>some (a0,a1,a2,a3)
  | _=>none
 ok:=by intro _ _ h;split at h <;>cases h;rfl
def f175.P:List Arg:=[⟨.iop,⟨false,[.rf .own [.leaf,.leaf,.leaf]],[.ref [.flt .f32 0,.flt .f32 0,.flt .f32 0]]⟩⟩,qA22]
def f175.A:RAlt (Nat × Nat × Nat):=.one ⟨[],[some ⟨false,[.rf .own [.leaf,.leaf,.leaf]],[.ref [.flt .f32 0,.flt .f32 0,.flt .f32 0]]⟩,none]⟩ sg_fff
def f175.F (n:Nat) (v:Nat × Nat × Nat × Nat):=f175 n v.1 v.2.1 v.2.2.1 v.2.2.2
def f175.O (n:Nat):Orc:=orcOf (E:=E) [f133.w,f177.w] [] n
theorem f175.ok:FnS 175 f175.P sg_ffff f175.A f175.F:=fnS c175 f175.O
def f175.w:FnW E:=fnW 175 f175.P sg_ffff f175.A f175.F f175.ok
def f176:Nat→Nat→Nat→Nat→Option (Nat)
 | 0,_,_,_=>none
 | n+1,x1,x2,x3 =>
   br (!(fgt .f32 x1 x2)) (
    some 1065353216) (
    some (fdiv .f32 (fadd .f32 x2 (fdiv .f32 (fsub .f32 x1 x2) x3)) x1))
def f176.P:List Arg:=[qA22,qA22,qA22]
def f176.A:RAlt (Nat):=.one ⟨[qV18],[none,none,none]⟩ sg_f
def f176.F (n:Nat) (v:Nat × Nat × Nat):=f176 n v.1 v.2.1 v.2.2
def f176.O (n:Nat):Orc:=orcOf (E:=E) [] [] n
theorem f176.ok:FnS 176 f176.P sg_fff f176.A f176.F:=fnS c176 f176.O
def f176.w:FnW E:=fnW 176 f176.P sg_fff f176.A f176.F f176.ok
def f162.l0 (n:Nat):Nat→Nat→List T→Nat→List T→Nat→Nat→Nat→Nat→Nat→Nat→Nat→Nat→Nat→Nat→Nat→List T→Nat→List T→Int→Int→Option (Nat × Nat × Nat × Nat × Nat × Nat × Nat × Nat × Nat × Nat × Nat × List T)
 | 0,_,_,_,_,_,_,_,_,_,_,_,_,_,_,_,_,_,_,_,_=>none
 | m+1,n1,l2,n3,l4,x5,x6,x7,x8,x9,x10,x11,x12,x13,x14,n15,l16,n17,l18,i19,i20 =>
   br (decide (i20<i19)) (
    gd ((decide ((0≤i20)∧(i20<(n17:Int))))&&(okAt [(CK.flt .f32)] l18 (Int.toNat i20))) (
    let x21:=(fAt l18 (Int.toNat i20))
    gd ((decide ((0≤i20)∧(i20<(n3:Int))))&&(okAt [(CK.flt .f32)] l4 (Int.toNat i20))) (
    bd (f175 n x5 x6 x7 (fAt l4 (Int.toNat i20))) fun r22 =>
    let x23:=r22.1
    let x24:=r22.2.1
    let x25:=r22.2.2
    bd (f176 n x25 x8 x9) fun r26 =>
    let x27:=r26
    gd (Nat.ble (n15+1) 2147483648) (
    let n28:=(n15+1)
    let l29:=(l16++(setN (reps 1 [(T.flt .f32 0)]) 0 [(T.flt .f32 (fmul .f32 x21 x27))]))
    f162.l0 n m n1 l2 n3 l4 x23 x24 x25 x8 x9 x10 x11 x12 x13 x14 n28 l29 n17 l18 i19 (IntKind.i64.wrap (i20+(1:Int))))))) (
    some (x5,x6,x7,x8,x9,x10,x11,x12,x13,x14,n15,l16))
termination_by structural x=>x
def f162:Nat→Nat→Nat→Nat→Nat→Nat→Nat→List T→Nat→List T→Option (Nat × List T × Nat × Nat × Nat × Nat × Nat × Bool)
 | 0,_,_,_,_,_,_,_,_,_=>none
 | n+1,x1,x2,x3,x4,x5,n6,l7,n8,l9 =>
   bd (f91 n n6 l7) fun r10 =>
   let b11:=r10
   br (!b11) (
    some (0,[],0,0,0,0,0,false)) (
    br ((n8:Int) != (n6:Int)) (
     some (0,[],0,0,0,0,0,false)) (
     bd (f162.l0 n n n6 l7 n8 l9 x1 x2 x3 x4 x5 0 0 0 0 0 0 [] n6 l7 (n6:Int) (0:Int)) fun r12 =>
     let x13:=r12.1
     let x14:=r12.2.1
     let x15:=r12.2.2.1
     let x16:=r12.2.2.2.1
     let x17:=r12.2.2.2.2.1
     let n23:=r12.2.2.2.2.2.2.2.2.2.2.1
     let l24:=r12.2.2.2.2.2.2.2.2.2.2.2
     some (n23,l24,x13,x14,x15,x16,x17,true)))
def sg_lfffffb:Sig (Nat × List T × Nat × Nat × Nat × Nat × Nat × Bool) where
 pk:=fun v=>[.lst v.1 v.2.1,.flt v.2.2.1,.flt v.2.2.2.1,.flt v.2.2.2.2.1,.flt v.2.2.2.2.2.1,.flt v.2.2.2.2.2.2.1,.bool v.2.2.2.2.2.2.2]
 up:=fun ls=>match ls with
  | [.lst a0 a1,.flt a2,.flt a3,.flt a4,.flt a5,.flt a6,.bool a7]=>some (a0,a1,a2,a3,a4,a5,a6,a7)
  | _=>none
 ok:=by intro _ _ h;split at h <;>cases h;rfl
def sg_llffffffffffllii:Sig (Nat × List T × Nat × List T × Nat × Nat × Nat × Nat × Nat × Nat × Nat × Nat × Nat × Nat × Nat × List T × Nat × List T × Int × Int) where
 pk:=fun v=>[.lst v.1 v.2.1,.lst v.2.2.1 v.2.2.2.1,.flt v.2.2.2.2.1,.flt v.2.2.2.2.2.1,.flt v.2.2.2.2.2.2.1,.flt v.2.2.2.2.2.2.2.1,.flt v.2.2.2.2.2.2.2.2.1,.flt v.2.2.2.2.2.2.2.2.2.1,.flt v.2.2.2.2.2.2.2.2.2.2.1,.flt v.2.2.2.2.2.2.2.2.2.2.2.1,.flt v.2.2.2.2.2.2.2.2.2.2.2.2.1,.flt v.2.2.2.2.2.2.2.2.2.2.2.2.2.1,.lst v.2.2.2.2.2.2.2.2.2.2.2.2.2.2.1 v.2.2.2.2.2.2.2.2.2.2.2.2.2.2.2.1,.lst v.2.2.2.2.2.2.2.2.2.2.2.2.2.2.2.2.1 v.2.2.2.2.2.2.2.2.2.2.2.2.2.2.2.2.2.1,.int v.2.2.2.2.2.2.2.2.2.2.2.2.2.2.2.2.2.2.1,.int v.2.2.2.2.2.2.2.2.2.2.2.2.2.2.2.2.2.2.2]
 up:=fun ls=>match ls with
  | [.lst a0 a1,.lst a2 a3,.flt a4,.flt a5,.flt a6,.flt a7,.flt a8,.flt a9,.flt a10,.flt a11,.flt a12,.flt a13,.lst a14 a15,.lst a16 a17,.int a18,.int a19]=>some (a0,a1,a2,a3,a4,a5,a6,a7,a8,a9,a10,a11,a12,a13,a14,a15,a16,a17,a18,a19)
  | _=>none
 ok:=by intro _ _ h;split at h <;>cases h;rfl
def f162.l0.P:AS:=⟨[(1,qS38),(2,qS38),(3,.box [.leaf,.leaf,.leaf,.leaf,.leaf] [.flt .f32 0,.flt .f32 0,.flt .f32 0,.flt .f32 0,.flt .f32 0] [] 0),(7,.box [.leaf,.leaf,.leaf,.leaf,.leaf] [.flt .f32 0,.flt .f32 0,.flt .f32 0,.flt .f32 0,.flt .f32 0] [] 0),(9,qS39),(23,qS38),(24,qS40),(25,qS40)],0⟩
def f162.l0.A:Alt (Nat × Nat × Nat × Nat × Nat × Nat × Nat × Nat × Nat × Nat × Nat × List T):=.one (.exit 0) ⟨[(3,.box [.leaf,.leaf,.leaf,.leaf,.leaf] [.flt .f32 0,.flt .f32 0,.flt .f32 0,.flt .f32 0,.flt .f32 0] [] 0),(7,.box [.leaf,.leaf,.leaf,.leaf,.leaf] [.flt .f32 0,.flt .f32 0,.flt .f32 0,.flt .f32 0,.flt .f32 0] [] 0),(9,qS39)],0⟩ sg_ffffffffffl
def f162.l0.F (n m:Nat) (v:Nat × List T × Nat × List T × Nat × Nat × Nat × Nat × Nat × Nat × Nat × Nat × Nat × Nat × Nat × List T × Nat × List T × Int × Int):=f162.l0 n m v.1 v.2.1 v.2.2.1 v.2.2.2.1 v.2.2.2.2.1 v.2.2.2.2.2.1 v.2.2.2.2.2.2.1 v.2.2.2.2.2.2.2.1 v.2.2.2.2.2.2.2.2.1 v.2.2.2.2.2.2.2.2.2.1 v.2.2.2.2.2.2.2.2.2.2.1 v.2.2.2.2.2.2.2.2.2.2.2.1 v.2.2.2.2.2.2.2.2.2.2.2.2.1 v.2.2.2.2.2.2.2.2.2.2.2.2.2.1 v.2.2.2.2.2.2.2.2.2.2.2.2.2.2.1 v.2.2.2.2.2.2.2.2.2.2.2.2.2.2.2.1 v.2.2.2.2.2.2.2.2.2.2.2.2.2.2.2.2.1 v.2.2.2.2.2.2.2.2.2.2.2.2.2.2.2.2.2.1 v.2.2.2.2.2.2.2.2.2.2.2.2.2.2.2.2.2.2.1 v.2.2.2.2.2.2.2.2.2.2.2.2.2.2.2.2.2.2.2
def f162.l0.W (n:Nat):LpW:=.of 80 f162.l0.P sg_llffffffffffllii f162.l0.A (f162.l0.F n n)
def f162.P:List Arg:=[qA31,qA19,qA19]
def f162.A:RAlt (Nat × List T × Nat × Nat × Nat × Nat × Nat × Bool):=.one ⟨[qV15,qV4,qV17],[none,none,none]⟩ sg_lfffffb
def f162.F (n:Nat) (v:Nat × Nat × Nat × Nat × Nat × Nat × List T × Nat × List T):=f162 n v.1 v.2.1 v.2.2.1 v.2.2.2.1 v.2.2.2.2.1 v.2.2.2.2.2.1 v.2.2.2.2.2.2.1 v.2.2.2.2.2.2.2.1 v.2.2.2.2.2.2.2.2
def f162.O (n:Nat):Orc:=orcOf (E:=E) [f91.w,f175.w,f176.w] [f162.l0.W n] n
theorem f162.l0.ok:∀ n,LpS 162 c162 0 n (f162.O n):=lpS f162.l0.P sg_llffffffffffllii f162.l0.A f162.l0.F
theorem f162.ok:FnS 162 f162.P sg_fffffll f162.A f162.F:=fnS c162 f162.O [loopAt c162 0] (fun n=>(.cons (f162.l0.ok n) .nil))
def f162.w:FnW E:=fnW 162 f162.P sg_fffffll f162.A f162.F f162.ok
def f134:Nat→Nat→Nat→Nat→Nat→Nat→Nat→List T→Option (Nat × List T × Nat × Nat × Nat × Nat × Nat × Bool)
 | 0,_,_,_,_,_,_,_=>none
 | n+1,x1,x2,x3,x4,x5,n6,l7 =>
   bd (f162 n x1 x2 x3 x4 x5 n6 l7 n6 l7) fun r8 =>
   let n9:=r8.1
   let l10:=r8.2.1
   let x11:=r8.2.2.1
   let x12:=r8.2.2.2.1
   let x13:=r8.2.2.2.2.1
   let x14:=r8.2.2.2.2.2.1
   let x15:=r8.2.2.2.2.2.2.1
   let b16:=r8.2.2.2.2.2.2.2
   some (n9,l10,x11,x12,x13,x14,x15,b16)
def sg_fffffl:Sig (Nat × Nat × Nat × Nat × Nat × Nat × List T) where
 pk:=fun v=>[.flt v.1,.flt v.2.1,.flt v.2.2.1,.flt v.2.2.2.1,.flt v.2.2.2.2.1,.lst v.2.2.2.2.2.1 v.2.2.2.2.2.2]
 up:=fun ls=>match ls with
  | [.flt a0,.flt a1,.flt a2,.flt a3,.flt a4,.lst a5 a6]=>some (a0,a1,a2,a3,a4,a5,a6)
  | _=>none
 ok:=by intro _ _ h;split at h <;>cases h;rfl
def f134.P:List Arg:=[qA31,qA19]
def f134.A:RAlt (Nat × List T × Nat × Nat × Nat × Nat × Nat × Bool):=.one ⟨[qV15,qV4,qV17],[none,none]⟩ sg_lfffffb
def f134.F (n:Nat) (v:Nat × Nat × Nat × Nat × Nat × Nat × List T):=f134 n v.1 v.2.1 v.2.2.1 v.2.2.2.1 v.2.2.2.2.1 v.2.2.2.2.2.1 v.2.2.2.2.2.2
def f134.O (n:Nat):Orc:=orcOf (E:=E) [f162.w] [] n
theorem f134.ok:FnS 134 f134.P sg_fffffl f134.A f134.F:=fnS c134 f134.O
def f134.w:FnW E:=fnW 134 f134.P sg_fffffl f134.A f134.F f134.ok
def f163:Nat→Nat→Nat→Option (Nat)
 | 0,_,_=>none
 | n+1,x1,x2 =>
   bd (f177 n x1) fun r3 =>
   let x4:=r3
   br (!(fgt .f32 x4 x2)) (
    some x1) (
    br (flt .f32 x1 0) (
     some (negF .f32 x2)) (
     some x2))
def f163.P:List Arg:=[qA22,qA22]
def f163.A:RAlt (Nat):=.one ⟨[qV18],[none,none]⟩ sg_f
def f163.F (n:Nat) (v:Nat × Nat):=f163 n v.1 v.2
def f163.O (n:Nat):Orc:=orcOf (E:=E) [f177.w] [] n
theorem f163.ok:FnS 163 f163.P sg_ff f163.A f163.F:=fnS c163 f163.O
def f163.w:FnW E:=fnW 163 f163.P sg_ff f163.A f163.F f163.ok
def f135.l0 (n:Nat):Nat→Nat→List T→Nat→Nat→List T→Nat→List T→Int→Int→Option (Nat × List T)
 | 0,_,_,_,_,_,_,_,_,_=>none
 | m+1,n1,l2,x3,n4,l5,n6,l7,i8,i9 =>
   br (decide (i9<i8)) (
    gd ((decide ((0≤i9)∧(i9<(n6:Int))))&&(okAt [(CK.flt .f32)] l7 (Int.toNat i9))) (
    let x10:=(fAt l7 (Int.toNat i9))
    bd (f163 n x10 x3) fun r11 =>
    let x12:=r11
    gd (Nat.ble (n4+1) 2147483648) (
    let n13:=(n4+1)
    let l14:=(l5++(setN (reps 1 [(T.flt .f32 0)]) 0 [(T.flt .f32 x12)]))
    f135.l0 n m n1 l2 x3 n13 l14 n6 l7 i8 (IntKind.i64.wrap (i9+(1:Int)))))) (
    some (n4,l5))
def f135:Nat→Nat→List T→Nat→Option (Nat × List T × Bool)
 | 0,_,_,_=>none
 | n+1,n1,l2,x3 =>
   bd (f91 n n1 l2) fun r4 =>
   let b5:=r4
   br (!b5) (
    some (0,[],false)) (
    bd (f135.l0 n n n1 l2 x3 0 [] n1 l2 (n1:Int) (0:Int)) fun r6 =>
    let n7:=r6.1
    let l8:=r6.2
    some (n7,l8,true))
def f135.l0.P:AS:=⟨[(0,qS38),(1,qS42),(6,qS39),(12,qS38),(13,qS40),(14,qS40)],0⟩
def f135.l0.A:Alt (Nat × List T):=.one (.exit 0) ⟨[(6,qS39)],0⟩ sg_l
def f135.l0.F (n m:Nat) (v:Nat × List T × Nat × Nat × List T × Nat × List T × Int × Int):=f135.l0 n m v.1 v.2.1 v.2.2.1 v.2.2.2.1 v.2.2.2.2.1 v.2.2.2.2.2.1 v.2.2.2.2.2.2.1 v.2.2.2.2.2.2.2.1 v.2.2.2.2.2.2.2.2
def f135.l0.W (n:Nat):LpW:=.of 80 f135.l0.P sg_lfllii f135.l0.A (f135.l0.F n n)
def f135.P:List Arg:=[qA19,qA22]
def f135.A:RAlt (Nat × List T × Bool):=.one ⟨[qV15,qV17],[none,none]⟩ sg_lb
def f135.F (n:Nat) (v:Nat × List T × Nat):=f135 n v.1 v.2.1 v.2.2
def f135.O (n:Nat):Orc:=orcOf (E:=E) [f91.w,f163.w] [f135.l0.W n] n
theorem f135.l0.ok:∀ n,LpS 135 c135 0 n (f135.O n):=lpS f135.l0.P sg_lfllii f135.l0.A f135.l0.F
theorem f135.ok:FnS 135 f135.P sg_lf f135.A f135.F:=fnS c135 f135.O [loopAt c135 0] (fun n=>(.cons (f135.l0.ok n) .nil))
def f135.w:FnW E:=fnW 135 f135.P sg_lf f135.A f135.F f135.ok
def f136:Nat→Nat→Option (Nat)
 | 0,_=>none
 | n+1,x1 =>
   br (fge .f32 x1 1065353216) (
    some 1065353216) (
    br (fle .f32 x1 3212836864) (
     some 3212836864) (
     some (fmul .f32 x1 (fsub .f32 1069547520 (fmul .f32 1056964608 (fmul .f32 x1 x1))))))
def f136.P:List Arg:=[qA22]
def f136.A:RAlt (Nat):=.one ⟨[qV18],[none]⟩ sg_f
def f136.F (n:Nat) (v:Nat):=f136 n v
def f136.O (n:Nat):Orc:=orcOf (E:=E) [] [] n
theorem f136.ok:FnS 136 f136.P sg_f f136.A f136.F:=fnS c136 f136.O
def f136.w:FnW E:=fnW 136 f136.P sg_f f136.A f136.F f136.ok
def f108.l1 (n:Nat):Nat→Nat→List T→Nat→List T→Nat→List T→Int→Int→Option (Nat × List T)
 | 0,_,_,_,_,_,_,_,_=>none
 | m+1,n1,l2,n3,l4,n5,l6,i7,i8 =>
   br (decide (i8<i7)) (
    gd ((decide ((0≤i8)∧(i8<(n5:Int))))&&(okAt [(CK.flt .f32)] l6 (Int.toNat i8))) (
    let x9:=(fAt l6 (Int.toNat i8))
    bd (f136 n x9) fun r10 =>
    let x11:=r10
    gd (Nat.ble (n3+1) 2147483648) (
    let n12:=(n3+1)
    let l13:=(l4++(setN (reps 1 [(T.flt .f32 0)]) 0 [(T.flt .f32 x11)]))
    f108.l1 n m n1 l2 n12 l13 n5 l6 i7 (IntKind.i64.wrap (i8+(1:Int)))))) (
    some (n3,l4))
def f164.l0 (n:Nat):Nat→Nat→List T→Nat→Nat→List T→Int→Int→Option (Nat)
 | 0,_,_,_,_,_,_,_=>none
 | m+1,n1,l2,x3,n4,l5,i6,i7 =>
   br (decide (i7<i6)) (
    gd ((decide ((0≤i7)∧(i7<(n4:Int))))&&(okAt [(CK.flt .f32)] l5 (Int.toNat i7))) (
    let x8:=(fAt l5 (Int.toNat i7))
    bd (f177 n x8) fun r9 =>
    let x10:=r9
    br (fgt .f32 x10 x3) (
     f164.l0 n m n1 l2 x10 n4 l5 i6 (IntKind.i64.wrap (i7+(1:Int)))) (
     f164.l0 n m n1 l2 x3 n4 l5 i6 (IntKind.i64.wrap (i7+(1:Int)))))) (
    some x3)
def f164:Nat→Nat→List T→Option (Nat)
 | 0,_,_=>none
 | n+1,n1,l2 =>
   bd (f164.l0 n n n1 l2 0 n1 l2 (n1:Int) (0:Int)) fun r3 =>
   let x4:=r3
   some x4
def sg_lflii:Sig (Nat × List T × Nat × Nat × List T × Int × Int) where
 pk:=fun v=>[.lst v.1 v.2.1,.flt v.2.2.1,.lst v.2.2.2.1 v.2.2.2.2.1,.int v.2.2.2.2.2.1,.int v.2.2.2.2.2.2]
 up:=fun ls=>match ls with
  | [.lst a0 a1,.flt a2,.lst a3 a4,.int a5,.int a6]=>some (a0,a1,a2,a3,a4,a5,a6)
  | _=>none
 ok:=by intro _ _ h;split at h <;>cases h;rfl
def f164.l0.P:AS:=⟨[(0,qS38),(3,qS42),(7,qS38),(8,qS40),(9,qS40)],0⟩
def f164.l0.A:Alt (Nat):=.one (.exit 0) ⟨[(3,qS42)],0⟩ sg_f
def f164.l0.F (n m:Nat) (v:Nat × List T × Nat × Nat × List T × Int × Int):=f164.l0 n m v.1 v.2.1 v.2.2.1 v.2.2.2.1 v.2.2.2.2.1 v.2.2.2.2.2.1 v.2.2.2.2.2.2
def f164.l0.W (n:Nat):LpW:=.of 48 f164.l0.P sg_lflii f164.l0.A (f164.l0.F n n)
def f164.P:List Arg:=[qA19]
def f164.A:RAlt (Nat):=.one ⟨[qV18],[none]⟩ sg_f
def f164.F (n:Nat) (v:Nat × List T):=f164 n v.1 v.2
def f164.O (n:Nat):Orc:=orcOf (E:=E) [f177.w] [f164.l0.W n] n
theorem f164.l0.ok:∀ n,LpS 164 c164 0 n (f164.O n):=lpS f164.l0.P sg_lflii f164.l0.A f164.l0.F
theorem f164.ok:FnS 164 f164.P sg_l f164.A f164.F:=fnS c164 f164.O [loopAt c164 0] (fun n=>(.cons (f164.l0.ok n) .nil))
def f164.w:FnW E:=fnW 164 f164.P sg_l f164.A f164.F f164.ok
def f137.l0 (n:Nat):Nat→Nat→List T→Nat→Nat→Nat→Nat→List T→Nat→Nat→Nat→Nat→List T→Nat→List T→Nat→List T→Int→Int→Option (Nat × Nat × Nat × Nat × List T × Nat × Nat × Nat × Nat × List T × Nat × List T)
 | 0,_,_,_,_,_,_,_,_,_,_,_,_,_,_,_,_,_,_=>none
 | m+1,n1,l2,x3,x4,x5,n6,l7,x8,x9,x10,n11,l12,n13,l14,n15,l16,i17,i18 =>
   br (decide (i18<i17)) (
    gd ((decide ((0≤i18)∧(i18<(n15:Int))))&&(okAt [(CK.flt .f32)] l16 (Int.toNat i18))) (
    let x19:=(fAt l16 (Int.toNat i18))
    bd (f79 n n6 l7) fun r20 =>
    let n21:=r20.1
    let l22:=r20.2
    gd (Nat.ble (n21+1) 2147483648) (
    let n23:=(n21+1)
    let l24:=(l22++(setN (reps 1 [(T.flt .f32 0)]) 0 [(T.flt .f32 x19)]))
    bd (f164 n n23 l24) fun r25 =>
    let x26:=r25
    br (fgt .f32 x26 x3) (
     let x27:=(fdiv .f32 x3 x26)
     let x28:=(fadd .f32 x5 x4)
     br (flt .f32 x27 x28) (
      gd (decide ((0≤(1:Int))∧(((1:Int)≤(n23:Int))∧((n23:Int)≤(n23:Int))))) (
      let n29:=(n23 - 1)
      let l30:=(List.take (n23 - 1) (List.drop 1 l24))
      gd ((decide ((0≤(0:Int))∧((0:Int)<(n23:Int))))&&(okAt [(CK.flt .f32)] l24 0)) (
      bd (f163 n (fmul .f32 (fAt l24 0) x27) x3) fun r31 =>
      let x32:=r31
      gd (Nat.ble (n13+1) 2147483648) (
      let n33:=(n13+1)
      let l34:=(l14++(setN (reps 1 [(T.flt .f32 0)]) 0 [(T.flt .f32 x32)]))
      f137.l0 n m n1 l2 x3 x4 x27 n29 l30 x8 x9 x10 n11 l12 n33 l34 n15 l16 i17 (IntKind.i64.wrap (i18+(1:Int))))))) (
      br (fne .f32 x28 x28) (
       gd (decide ((0≤(1:Int))∧(((1:Int)≤(n23:Int))∧((n23:Int)≤(n23:Int))))) (
       let n35:=(n23 - 1)
       let l36:=(List.take (n23 - 1) (List.drop 1 l24))
       gd ((decide ((0≤(0:Int))∧((0:Int)<(n23:Int))))&&(okAt [(CK.flt .f32)] l24 0)) (
       bd (f163 n (fmul .f32 (fAt l24 0) x27) x3) fun r37 =>
       let x38:=r37
       gd (Nat.ble (n13+1) 2147483648) (
       let n39:=(n13+1)
       let l40:=(l14++(setN (reps 1 [(T.flt .f32 0)]) 0 [(T.flt .f32 x38)]))
       f137.l0 n m n1 l2 x3 x4 x27 n35 l36 x8 x9 x10 n11 l12 n39 l40 n15 l16 i17 (IntKind.i64.wrap (i18+(1:Int))))))) (
       gd (decide ((0≤(1:Int))∧(((1:Int)≤(n23:Int))∧((n23:Int)≤(n23:Int))))) (
       let n41:=(n23 - 1)
       let l42:=(List.take (n23 - 1) (List.drop 1 l24))
       gd ((decide ((0≤(0:Int))∧((0:Int)<(n23:Int))))&&(okAt [(CK.flt .f32)] l24 0)) (
       bd (f163 n (fmul .f32 (fAt l24 0) x28) x3) fun r43 =>
       let x44:=r43
       gd (Nat.ble (n13+1) 2147483648) (
       let n45:=(n13+1)
       let l46:=(l14++(setN (reps 1 [(T.flt .f32 0)]) 0 [(T.flt .f32 x44)]))
       f137.l0 n m n1 l2 x3 x4 x28 n41 l42 x8 x9 x10 n11 l12 n45 l46 n15 l16 i17 (IntKind.i64.wrap (i18+(1:Int))))))))) (
     let x47:=(fadd .f32 x5 x4)
     br (flt .f32 1065353216 x47) (
      gd (decide ((0≤(1:Int))∧(((1:Int)≤(n23:Int))∧((n23:Int)≤(n23:Int))))) (
      let n48:=(n23 - 1)
      let l49:=(List.take (n23 - 1) (List.drop 1 l24))
      gd ((decide ((0≤(0:Int))∧((0:Int)<(n23:Int))))&&(okAt [(CK.flt .f32)] l24 0)) (
      bd (f163 n (fmul .f32 (fAt l24 0) 1065353216) x3) fun r50 =>
      let x51:=r50
      gd (Nat.ble (n13+1) 2147483648) (
      let n52:=(n13+1)
      let l53:=(l14++(setN (reps 1 [(T.flt .f32 0)]) 0 [(T.flt .f32 x51)]))
      f137.l0 n m n1 l2 x3 x4 1065353216 n48 l49 x8 x9 x10 n11 l12 n52 l53 n15 l16 i17 (IntKind.i64.wrap (i18+(1:Int))))))) (
      br (fne .f32 x47 x47) (
       gd (decide ((0≤(1:Int))∧(((1:Int)≤(n23:Int))∧((n23:Int)≤(n23:Int))))) (
       let n54:=(n23 - 1)
       let l55:=(List.take (n23 - 1) (List.drop 1 l24))
       gd ((decide ((0≤(0:Int))∧((0:Int)<(n23:Int))))&&(okAt [(CK.flt .f32)] l24 0)) (
       bd (f163 n (fmul .f32 (fAt l24 0) 1065353216) x3) fun r56 =>
       let x57:=r56
       gd (Nat.ble (n13+1) 2147483648) (
       let n58:=(n13+1)
       let l59:=(l14++(setN (reps 1 [(T.flt .f32 0)]) 0 [(T.flt .f32 x57)]))
       f137.l0 n m n1 l2 x3 x4 1065353216 n54 l55 x8 x9 x10 n11 l12 n58 l59 n15 l16 i17 (IntKind.i64.wrap (i18+(1:Int))))))) (
       gd (decide ((0≤(1:Int))∧(((1:Int)≤(n23:Int))∧((n23:Int)≤(n23:Int))))) (
       let n60:=(n23 - 1)
       let l61:=(List.take (n23 - 1) (List.drop 1 l24))
       gd ((decide ((0≤(0:Int))∧((0:Int)<(n23:Int))))&&(okAt [(CK.flt .f32)] l24 0)) (
       bd (f163 n (fmul .f32 (fAt l24 0) x47) x3) fun r62 =>
       let x63:=r62
       gd (Nat.ble (n13+1) 2147483648) (
       let n64:=(n13+1)
       let l65:=(l14++(setN (reps 1 [(T.flt .f32 0)]) 0 [(T.flt .f32 x63)]))
       f137.l0 n m n1 l2 x3 x4 x47 n60 l61 x8 x9 x10 n11 l12 n64 l65 n15 l16 i17 (IntKind.i64.wrap (i18+(1:Int)))))))))))) (
    some (x3,x4,x5,n6,l7,x8,x9,x10,n11,l12,n13,l14))
termination_by structural x=>x
def f137:Nat→Nat→Nat→Nat→Nat→List T→Nat→List T→Option (Nat × List T × Nat × Nat × Nat × Nat × List T × Bool)
 | 0,_,_,_,_,_,_,_=>none
 | n+1,x1,x2,x3,n4,l5,n6,l7 =>
   bd (f145 n x1) fun r8 =>
   let b9:=r8
   br (!b9) (
    some (0,[],0,0,0,0,[],false)) (
    br (decide ((n4:Int)>(64:Int))) (
     some (0,[],0,0,0,0,[],false)) (
     bd (f91 n n6 l7) fun r10 =>
     let b11:=r10
     br (!b11) (
      some (0,[],0,0,0,0,[],false)) (
      bd (f79 n n4 l5) fun r12 =>
      let n13:=r12.1
      let l14:=r12.2
      bd (f137.l0 n n n6 l7 x1 x2 x3 n13 l14 0 0 0 0 [] 0 [] n6 l7 (n6:Int) (0:Int)) fun r15 =>
      let x16:=r15.1
      let x17:=r15.2.1
      let x18:=r15.2.2.1
      let n19:=r15.2.2.2.1
      let l20:=r15.2.2.2.2.1
      let n26:=r15.2.2.2.2.2.2.2.2.2.2.1
      let l27:=r15.2.2.2.2.2.2.2.2.2.2.2
      bd (f79 n n19 l20) fun r28 =>
      let n29:=r28.1
      let l30:=r28.2
      some (n26,l27,x16,x17,x18,n29,l30,true))))
def sg_lffflffflllii:Sig (Nat × List T × Nat × Nat × Nat × Nat × List T × Nat × Nat × Nat × Nat × List T × Nat × List T × Nat × List T × Int × Int) where
 pk:=fun v=>[.lst v.1 v.2.1,.flt v.2.2.1,.flt v.2.2.2.1,.flt v.2.2.2.2.1,.lst v.2.2.2.2.2.1 v.2.2.2.2.2.2.1,.flt v.2.2.2.2.2.2.2.1,.flt v.2.2.2.2.2.2.2.2.1,.flt v.2.2.2.2.2.2.2.2.2.1,.lst v.2.2.2.2.2.2.2.2.2.2.1 v.2.2.2.2.2.2.2.2.2.2.2.1,.lst v.2.2.2.2.2.2.2.2.2.2.2.2.1 v.2.2.2.2.2.2.2.2.2.2.2.2.2.1,.lst v.2.2.2.2.2.2.2.2.2.2.2.2.2.2.1 v.2.2.2.2.2.2.2.2.2.2.2.2.2.2.2.1,.int v.2.2.2.2.2.2.2.2.2.2.2.2.2.2.2.2.1,.int v.2.2.2.2.2.2.2.2.2.2.2.2.2.2.2.2.2]
 up:=fun ls=>match ls with
  | [.lst a0 a1,.flt a2,.flt a3,.flt a4,.lst a5 a6,.flt a7,.flt a8,.flt a9,.lst a10 a11,.lst a12 a13,.lst a14 a15,.int a16,.int a17]=>some (a0,a1,a2,a3,a4,a5,a6,a7,a8,a9,a10,a11,a12,a13,a14,a15,a16,a17)
  | _=>none
 ok:=by intro _ _ h;split at h <;>cases h;rfl
def sg_ffflfffll:Sig (Nat × Nat × Nat × Nat × List T × Nat × Nat × Nat × Nat × List T × Nat × List T) where
 pk:=fun v=>[.flt v.1,.flt v.2.1,.flt v.2.2.1,.lst v.2.2.2.1 v.2.2.2.2.1,.flt v.2.2.2.2.2.1,.flt v.2.2.2.2.2.2.1,.flt v.2.2.2.2.2.2.2.1,.lst v.2.2.2.2.2.2.2.2.1 v.2.2.2.2.2.2.2.2.2.1,.lst v.2.2.2.2.2.2.2.2.2.2.1 v.2.2.2.2.2.2.2.2.2.2.2]
 up:=fun ls=>match ls with
  | [.flt a0,.flt a1,.flt a2,.lst a3 a4,.flt a5,.flt a6,.flt a7,.lst a8 a9,.lst a10 a11]=>some (a0,a1,a2,a3,a4,a5,a6,a7,a8,a9,a10,a11)
  | _=>none
 ok:=by intro _ _ h;split at h <;>cases h;rfl
def f137.l0.P:AS:=⟨[(1,qS38),(2,.box [.leaf,.leaf,.leaf,.sl .shr [.leaf]] [.flt .f32 0,.flt .f32 0,.flt .f32 0,.lst 0 []] [] 0),(5,.box [.leaf,.leaf,.leaf,.sl .own [.leaf]] [.flt .f32 0,.flt .f32 0,.flt .f32 0,.lst 0 []] [] 0),(7,qS39),(34,qS38),(35,qS40),(36,qS40)],0⟩
def f137.l0.A:Alt (Nat × Nat × Nat × Nat × List T × Nat × Nat × Nat × Nat × List T × Nat × List T):=.one (.exit 0) ⟨[(2,.box [.leaf,.leaf,.leaf,.sl .shr [.leaf]] [.flt .f32 0,.flt .f32 0,.flt .f32 0,.lst 0 []] [] 0),(5,.box [.leaf,.leaf,.leaf,.sl .own [.leaf]] [.flt .f32 0,.flt .f32 0,.flt .f32 0,.lst 0 []] [] 0),(7,qS39)],0⟩ sg_ffflfffll
def f137.l0.F (n m:Nat) (v:Nat × List T × Nat × Nat × Nat × Nat × List T × Nat × Nat × Nat × Nat × List T × Nat × List T × Nat × List T × Int × Int):=f137.l0 n m v.1 v.2.1 v.2.2.1 v.2.2.2.1 v.2.2.2.2.1 v.2.2.2.2.2.1 v.2.2.2.2.2.2.1 v.2.2.2.2.2.2.2.1 v.2.2.2.2.2.2.2.2.1 v.2.2.2.2.2.2.2.2.2.1 v.2.2.2.2.2.2.2.2.2.2.1 v.2.2.2.2.2.2.2.2.2.2.2.1 v.2.2.2.2.2.2.2.2.2.2.2.2.1 v.2.2.2.2.2.2.2.2.2.2.2.2.2.1 v.2.2.2.2.2.2.2.2.2.2.2.2.2.2.1 v.2.2.2.2.2.2.2.2.2.2.2.2.2.2.2.1 v.2.2.2.2.2.2.2.2.2.2.2.2.2.2.2.2.1 v.2.2.2.2.2.2.2.2.2.2.2.2.2.2.2.2.2
def f137.l0.W (n:Nat):LpW:=.of 96 f137.l0.P sg_lffflffflllii f137.l0.A (f137.l0.F n n)
def f137.P:List Arg:=[⟨.val,⟨true,[.leaf,.leaf,.leaf,.sl .shr [.leaf]],[.flt .f32 0,.flt .f32 0,.flt .f32 0,.lst 0 []]⟩⟩,qA19]
def f137.A:RAlt (Nat × List T × Nat × Nat × Nat × Nat × List T × Bool):=.one ⟨[qV15,⟨true,[.leaf,.leaf,.leaf,.sl .own [.leaf]],[.flt .f32 0,.flt .f32 0,.flt .f32 0,.lst 0 []]⟩,qV17],[none,none]⟩ sg_lffflb
def f137.F (n:Nat) (v:Nat × Nat × Nat × Nat × List T × Nat × List T):=f137 n v.1 v.2.1 v.2.2.1 v.2.2.2.1 v.2.2.2.2.1 v.2.2.2.2.2.1 v.2.2.2.2.2.2
def f137.O (n:Nat):Orc:=orcOf (E:=E) [f145.w,f91.w,f79.w,f163.w,f164.w] [f137.l0.W n] n
theorem f137.l0.ok:∀ n,LpS 137 c137 0 n (f137.O n):=lpS f137.l0.P sg_lffflffflllii f137.l0.A f137.l0.F
theorem f137.ok:FnS 137 f137.P sg_fffll f137.A f137.F:=fnS c137 f137.O [loopAt c137 0] (fun n=>(.cons (f137.l0.ok n) .nil))
def f137.w:FnW E:=fnW 137 f137.P sg_fffll f137.A f137.F f137.ok
def f108:Nat→Int→Int→Nat→List T→Nat→List T→Nat→List T→Option (Nat × List T × Nat × List T)
 | 0,_,_,_,_,_,_,_,_=>none
 | n+1,i1,i2,n3,l4,n5,l6,n7,l8 =>
   br (i1==(0:Int)) (
    gd ((decide ((0≤(0:Int))∧((0:Int)<(n3:Int))))&&(okAt [(CK.flt .f32)] l4 0)) (
    bd (f130 n n7 l8 (fAt l4 0)) fun r9 =>
    let n10:=r9.1
    let l11:=r9.2
    some (n10,l11,0,[]))) (
    br (i1==(1:Int)) (
     gd ((decide ((0≤(0:Int))∧((0:Int)<(n3:Int))))&&(okAt [(CK.flt .f32)] l4 0)) (
     gd ((decide ((0≤(1:Int))∧((1:Int)<(n3:Int))))&&(okAt [(CK.flt .f32)] l4 1)) (
     gd ((decide ((0≤(2:Int))∧((2:Int)<(n3:Int))))&&(okAt [(CK.flt .f32)] l4 2)) (
     gd ((decide ((0≤(3:Int))∧((3:Int)<(n3:Int))))&&(okAt [(CK.flt .f32)] l4 3)) (
     gd ((decide ((0≤(4:Int))∧((4:Int)<(n3:Int))))&&(okAt [(CK.flt .f32)] l4 4)) (
     let x12:=(fAt l4 0)
     let x13:=(fAt l4 1)
     let x14:=(fAt l4 2)
     let x15:=(fAt l4 3)
     let x16:=(fAt l4 4)
     gd ((decide ((0≤(0:Int))∧((0:Int)<(n5:Int))))&&(okAt [(CK.flt .f32)] l6 0)) (
     gd ((decide ((0≤(1:Int))∧((1:Int)<(n5:Int))))&&(okAt [(CK.flt .f32)] l6 1)) (
     bd (f131 n x12 x13 x14 x15 x16 (1:Int) true (fAt l6 0) (fAt l6 1) 0 0 n7 l8) fun r17 =>
     let n18:=r17.1
     let l19:=r17.2.1
     let x20:=r17.2.2.1
     let x21:=r17.2.2.2.1
     some (n18,l19,2,(setN (setN (reps 2 [(T.flt .f32 0)]) 0 [(T.flt .f32 x20)]) 1 [(T.flt .f32 x21)])))))))))) (
     br (i1==(2:Int)) (
      bd (f79 n n5 l6) fun r24 =>
      let n25:=r24.1
      let l26:=r24.2
      bd (f108.l0 n n n7 l8 n3 l4 n25 l26 0 [] n7 l8 (n7:Int) (0:Int)) fun r27 =>
      let n28:=r27.1
      let l29:=r27.2.1
      let n30:=r27.2.2.1
      let l31:=r27.2.2.2
      some (n30,l31,n28,l29)) (
      br (i1==(3:Int)) (
       gd ((decide ((0≤(0:Int))∧((0:Int)<(n3:Int))))&&(okAt [(CK.flt .f32)] l4 0)) (
       gd ((decide ((0≤(1:Int))∧((1:Int)<(n3:Int))))&&(okAt [(CK.flt .f32)] l4 1)) (
       gd ((decide ((0≤(0:Int))∧((0:Int)<(n5:Int))))&&(okAt [(CK.flt .f32)] l6 0)) (
       gd ((decide ((0≤(2:Int))∧((2:Int)<(n3:Int))))&&(okAt [(CK.flt .f32)] l4 2)) (
       gd ((decide ((0≤(3:Int))∧((3:Int)<(n3:Int))))&&(okAt [(CK.flt .f32)] l4 3)) (
       let x32:=(fAt l4 0)
       let x33:=(fAt l4 1)
       let x34:=(fAt l6 0)
       let x35:=(fAt l4 2)
       let x36:=(fAt l4 3)
       bd (f134 n x32 x33 x34 x35 x36 n7 l8) fun r37 =>
       let n38:=r37.1
       let l39:=r37.2.1
       let x42:=r37.2.2.2.2.1
       some (n38,l39,1,(setN (reps 1 [(T.flt .f32 0)]) 0 [(T.flt .f32 x42)])))))))) (
       br (i1==(4:Int)) (
        gd ((decide ((0≤(0:Int))∧((0:Int)<(n3:Int))))&&(okAt [(CK.flt .f32)] l4 0)) (
        bd (f135 n n7 l8 (fAt l4 0)) fun r46 =>
        let n47:=r46.1
        let l48:=r46.2.1
        some (n47,l48,0,[]))) (
        br (i1==(5:Int)) (
         bd (f108.l1 n n n7 l8 0 [] n7 l8 (n7:Int) (0:Int)) fun r50 =>
         let n51:=r50.1
         let l52:=r50.2
         some (n51,l52,0,[])) (
         gd ((decide ((0≤(0:Int))∧((0:Int)<(n3:Int))))&&(okAt [(CK.flt .f32)] l4 0)) (
         gd ((decide ((0≤(1:Int))∧((1:Int)<(n3:Int))))&&(okAt [(CK.flt .f32)] l4 1)) (
         gd ((decide ((0≤(0:Int))∧((0:Int)<(n5:Int))))&&(okAt [(CK.flt .f32)] l6 0)) (
         gd (decide ((0≤(1:Int))∧(((1:Int)≤(n5:Int))∧((n5:Int)≤(n5:Int))))) (
         bd (f137 n (fAt l4 0) (fAt l4 1) (fAt l6 0) (n5 - 1) (List.take (n5 - 1) (List.drop 1 l6)) n7 l8) fun r53 =>
         let n54:=r53.1
         let l55:=r53.2.1
         let x58:=r53.2.2.2.2.1
         let n59:=r53.2.2.2.2.2.1
         let l60:=r53.2.2.2.2.2.2.1
         gd (Nat.ble (1+n59) 2147483648) (
         some (n54,l55,(1+n59),((setN (reps 1 [(T.flt .f32 0)]) 0 [(T.flt .f32 x58)])++l60)))))))))))))
def sg_lllllii:Sig (Nat × List T × Nat × List T × Nat × List T × Nat × List T × Nat × List T × Int × Int) where
 pk:=fun v=>[.lst v.1 v.2.1,.lst v.2.2.1 v.2.2.2.1,.lst v.2.2.2.2.1 v.2.2.2.2.2.1,.lst v.2.2.2.2.2.2.1 v.2.2.2.2.2.2.2.1,.lst v.2.2.2.2.2.2.2.2.1 v.2.2.2.2.2.2.2.2.2.1,.int v.2.2.2.2.2.2.2.2.2.2.1,.int v.2.2.2.2.2.2.2.2.2.2.2]
 up:=fun ls=>match ls with
  | [.lst a0 a1,.lst a2 a3,.lst a4 a5,.lst a6 a7,.lst a8 a9,.int a10,.int a11]=>some (a0,a1,a2,a3,a4,a5,a6,a7,a8,a9,a10,a11)
  | _=>none
 ok:=by intro _ _ h;split at h <;>cases h;rfl
def f108.l0.P:AS:=⟨[(2,qS38),(8,qS38),(12,qS39),(13,qS39),(80,qS38),(81,qS40),(82,qS40)],0⟩
def f108.l0.A:Alt (Nat × List T × Nat × List T):=.one (.exit 1) ⟨[(12,qS39),(13,qS39)],0⟩ sg_ll
def f108.l0.F (n m:Nat) (v:Nat × List T × Nat × List T × Nat × List T × Nat × List T × Nat × List T × Int × Int):=f108.l0 n m v.1 v.2.1 v.2.2.1 v.2.2.2.1 v.2.2.2.2.1 v.2.2.2.2.2.1 v.2.2.2.2.2.2.1 v.2.2.2.2.2.2.2.1 v.2.2.2.2.2.2.2.2.1 v.2.2.2.2.2.2.2.2.2.1 v.2.2.2.2.2.2.2.2.2.2.1 v.2.2.2.2.2.2.2.2.2.2.2
def f108.l0.W (n:Nat):LpW:=.of 208 f108.l0.P sg_lllllii f108.l0.A (f108.l0.F n n)
def f108.l1.P:AS:=⟨[(2,qS38),(22,qS39),(156,qS38),(157,qS40),(158,qS40)],0⟩
def f108.l1.A:Alt (Nat × List T):=.one (.exit 3) ⟨[(22,qS39)],0⟩ sg_l
def f108.l1.F (n m:Nat) (v:Nat × List T × Nat × List T × Nat × List T × Int × Int):=f108.l1 n m v.1 v.2.1 v.2.2.1 v.2.2.2.1 v.2.2.2.2.1 v.2.2.2.2.2.1 v.2.2.2.2.2.2.1 v.2.2.2.2.2.2.2
def f108.l1.W (n:Nat):LpW:=.of 480 f108.l1.P sg_lllii f108.l1.A (f108.l1.F n n)
def f108.P:List Arg:=[qA24,qA19,qA19]
def f108.A:RAlt (Nat × List T × Nat × List T):=.one ⟨[qV15,qV15],[none,none,none]⟩ sg_ll
def f108.F (n:Nat) (v:Int × Int × Nat × List T × Nat × List T × Nat × List T):=f108 n v.1 v.2.1 v.2.2.1 v.2.2.2.1 v.2.2.2.2.1 v.2.2.2.2.2.1 v.2.2.2.2.2.2.1 v.2.2.2.2.2.2.2
def f108.O (n:Nat):Orc:=orcOf (E:=E) [f79.w,f130.w,f133.w,f131.w,f132.w,f134.w,f135.w,f136.w,f137.w] [f108.l0.W n,f108.l1.W n] n
theorem f108.l0.ok:∀ n,LpS 108 c108 0 n (f108.O n):=lpS f108.l0.P sg_lllllii f108.l0.A f108.l0.F
theorem f108.l1.ok:∀ n,LpS 108 c108 1 n (f108.O n):=lpS f108.l1.P sg_lllii f108.l1.A f108.l1.F
theorem f108.ok:FnS 108 f108.P sg_iilll f108.A f108.F:=fnS c108 f108.O [loopAt c108 0,loopAt c108 1] (fun n=>(.cons (f108.l0.ok n) (.cons (f108.l1.ok n) .nil)))
def f108.w:FnW E:=fnW 108 f108.P sg_iilll f108.A f108.F f108.ok
def f72.l0 (n:Nat):Nat→Nat→List T→Nat→List T→Nat→List T→Nat→List T→Nat→List T→Int→Int→Option (Nat × List T × Nat × List T)
 | 0,_,_,_,_,_,_,_,_,_,_,_,_=>none
 | m+1,n1,l2,n3,l4,n5,l6,n7,l8,n9,l10,i11,i12 =>
   br (decide (i12<i11)) (
    gd ((decide ((0≤i12)∧(i12<(n9:Int))))&&(okAt [(CK.int .i64),(CK.int .i64),CK.lst] l10 (((Int.toNat i12) * 3)+0))) (
    let i13:=(iAt l10 (((Int.toNat i12) * 3)+0))
    let i14:=(iAt l10 ((((Int.toNat i12) * 3)+0)+1))
    let n15:=(nAt l10 (((((Int.toNat i12) * 3)+0)+1)+1))
    let l16:=(lAt l10 (((((Int.toNat i12) * 3)+0)+1)+1))
    gd ((decide ((0≤i12)∧(i12<(n3:Int))))&&(okAt [CK.lst] l4 (Int.toNat i12))) (
    bd (f108 n i13 i14 n15 l16 (nAt l4 (Int.toNat i12)) (lAt l4 (Int.toNat i12)) n5 l6) fun r17 =>
    let n18:=r17.1
    let l19:=r17.2.1
    let n20:=r17.2.2.1
    let l21:=r17.2.2.2
    gd (Nat.ble (n7+1) 2147483648) (
    let n22:=(n7+1)
    let l23:=(l8++(setN (reps 1 [(T.lst 0 [])]) 0 [(T.lst n20 l21)]))
    f72.l0 n m n1 l2 n3 l4 n18 l19 n22 l23 n9 l10 i11 (IntKind.i64.wrap (i12+(1:Int))))))) (
    some (n5,l6,n7,l8))
termination_by structural x=>x
def f72:Nat→Nat→List T→Nat→List T→Nat→List T→Option (Nat × List T × Nat × List T)
 | 0,_,_,_,_,_,_=>none
 | n+1,n1,l2,n3,l4,n5,l6 =>
   bd (f79 n n5 l6) fun r7 =>
   let n8:=r7.1
   let l9:=r7.2
   bd (f72.l0 n n n1 l2 n3 l4 n8 l9 0 [] n1 l2 (n1:Int) (0:Int)) fun r10 =>
   let n11:=r10.1
   let l12:=r10.2.1
   let n13:=r10.2.2.1
   let l14:=r10.2.2.2
   some (n11,l12,n13,l14)
def f72.l0.P:AS:=⟨[(0,qS34),(1,.val false [.sl .shr [.sl .shr [.leaf]]] [.lst 0 []] [] 0),(8,qS39),(9,qS37),(16,qS34),(17,qS40),(18,qS40)],0⟩
def f72.l0.A:Alt (Nat × List T × Nat × List T):=.one (.exit 0) ⟨[(8,qS39),(9,qS37)],0⟩ sg_ll
def f72.l0.F (n m:Nat) (v:Nat × List T × Nat × List T × Nat × List T × Nat × List T × Nat × List T × Int × Int):=f72.l0 n m v.1 v.2.1 v.2.2.1 v.2.2.2.1 v.2.2.2.2.1 v.2.2.2.2.2.1 v.2.2.2.2.2.2.1 v.2.2.2.2.2.2.2.1 v.2.2.2.2.2.2.2.2.1 v.2.2.2.2.2.2.2.2.2.1 v.2.2.2.2.2.2.2.2.2.2.1 v.2.2.2.2.2.2.2.2.2.2.2
def f72.l0.W (n:Nat):LpW:=.of 64 f72.l0.P sg_lllllii f72.l0.A (f72.l0.F n n)
def f72.P:List Arg:=[qA21,⟨.val,⟨false,[.sl .shr [.sl .shr [.leaf]]],[.lst 0 []]⟩⟩,qA19]
def f72.A:RAlt (Nat × List T × Nat × List T):=.one ⟨[qV15,qV13],[none,none,none]⟩ sg_ll
def f72.F (n:Nat) (v:Nat × List T × Nat × List T × Nat × List T):=f72 n v.1 v.2.1 v.2.2.1 v.2.2.2.1 v.2.2.2.2.1 v.2.2.2.2.2
def f72.O (n:Nat):Orc:=orcOf (E:=E) [f79.w,f108.w] [f72.l0.W n] n
theorem f72.l0.ok:∀ n,LpS 72 c72 0 n (f72.O n):=lpS f72.l0.P sg_lllllii f72.l0.A f72.l0.F
theorem f72.ok:FnS 72 f72.P sg_lll f72.A f72.F:=fnS c72 f72.O [loopAt c72 0] (fun n=>(.cons (f72.l0.ok n) .nil))
def f72.w:FnW E:=fnW 72 f72.P sg_lll f72.A f72.F f72.ok
def f34:Nat→Nat→List T→Nat→List T→Int→Int→Option (Nat × List T)
 | 0,_,_,_,_,_,_=>none
 | n+1,n1,l2,n3,l4,i5,i6 =>
   gd ((decide ((0≤i5)∧(i5<(n3:Int))))&&(okAt [CK.lst,(CK.int .i64),(CK.flt .f32),CK.bool,CK.bool] l4 (((Int.toNat i5) * 5)+0))) (
   let n7:=(nAt l4 (((Int.toNat i5) * 5)+0))
   let l8:=(lAt l4 (((Int.toNat i5) * 5)+0))
   bd (f73 n n7 l8) fun r9 =>
   let n10:=r9.1
   let l11:=r9.2
   bd (f57 n n1 l2 n3 l4 i5 (0:Int) i6) fun r12 =>
   let n13:=r12.1
   let l14:=r12.2
   bd (f72 n n7 l8 n10 l11 n13 l14) fun r15 =>
   let n16:=r15.1
   let l17:=r15.2.1
   some (n16,l17))
def f34.P:List Arg:=[qA27,qA20,qA20]
def f34.A:RAlt (Nat × List T):=.one ⟨[qV15],[none,none,none]⟩ sg_l
def f34.F (n:Nat) (v:Nat × List T × Nat × List T × Int × Int):=f34 n v.1 v.2.1 v.2.2.1 v.2.2.2.1 v.2.2.2.2.1 v.2.2.2.2.2
def f34.O (n:Nat):Orc:=orcOf (E:=E) [f73.w,f57.w,f72.w] [] n
theorem f34.ok:FnS 34 f34.P sg_llii f34.A f34.F:=fnS c34 f34.O
def f34.w:FnW E:=fnW 34 f34.P sg_llii f34.A f34.F f34.ok
def f45:Nat→Nat→List T→Nat→List T→Option ((Nat × List T × Nat × List T × Bool × Nat × List T × Nat × List T) ⊕ (Nat × List T × Nat × List T × Bool × Nat × List T × Nat × List T))
 | 0,_,_,_,_=>none
 | n+1,n1,l2,n3,l4 =>
   bd (f50 n n1 l2 n3 l4) fun r5 =>
   let b6:=r5
   br (!b6) (
    some (Sum.inl (0,[],0,[],false,n1,l2,n3,l4))) (
    some (Sum.inr (n1,l2,n3,l4,true,n1,l2,n3,l4)))
def sg_llbll:Sig (Nat × List T × Nat × List T × Bool × Nat × List T × Nat × List T) where
 pk:=fun v=>[.lst v.1 v.2.1,.lst v.2.2.1 v.2.2.2.1,.bool v.2.2.2.2.1,.lst v.2.2.2.2.2.1 v.2.2.2.2.2.2.1,.lst v.2.2.2.2.2.2.2.1 v.2.2.2.2.2.2.2.2]
 up:=fun ls=>match ls with
  | [.lst a0 a1,.lst a2 a3,.bool a4,.lst a5 a6,.lst a7 a8]=>some (a0,a1,a2,a3,a4,a5,a6,a7,a8)
  | _=>none
 ok:=by intro _ _ h;split at h <;>cases h;rfl
def f45.P:List Arg:=[⟨.io,qV2⟩]
def f45.A:RAlt ((Nat × List T × Nat × List T × Bool × Nat × List T × Nat × List T) ⊕ (Nat × List T × Nat × List T × Bool × Nat × List T × Nat × List T)):=.or (.one ⟨[qV2,qV17],[some qV2]⟩ sg_llbll) (.one ⟨[qV2,qV17],[some ⟨true,[.dead,.dead],[.lst 0 [],.lst 0 []]⟩]⟩ sg_llbll)
def f45.F (n:Nat) (v:Nat × List T × Nat × List T):=f45 n v.1 v.2.1 v.2.2.1 v.2.2.2
def f45.O (n:Nat):Orc:=orcOf (E:=E) [f50.w] [] n
theorem f45.ok:FnS 45 f45.P sg_ll f45.A f45.F:=fnS c45 f45.O
def f45.w:FnW E:=fnW 45 f45.P sg_ll f45.A f45.F f45.ok
def f16:Nat→Nat→List T→Nat→List T→Int→Int→Option (Nat × List T × Nat × List T × Bool)
 | 0,_,_,_,_,_,_=>none
 | n+1,n1,l2,n3,l4,i5,i6 =>
   bd (f33 n n1 l2 n3 l4 i5 i6) fun r7 =>
   let b8:=r7
   br (!b8) (
    some (0,[],0,[],false)) (
    bd (f42 n n1 l2 n3 l4) fun r9 =>
    let n10:=r9.1
    let l11:=r9.2.1
    let n12:=r9.2.2.1
    let l13:=r9.2.2.2
    bd (xDelFirst 3 n n10 l11 i5) fun r14 =>
    let n15:=r14.1
    let l16:=r14.2.1
    bd (f34 n n1 l2 n3 l4 i5 i6) fun r19 =>
    let n20:=r19.1
    let l21:=r19.2
    gd (Nat.ble (n15+1) 2147483648) (
    let n22:=(n15+1)
    let l23:=(l16++(setN (reps 1 [(T.int .i64 (0:Int)),(T.int .i64 (0:Int)),(T.lst 0 [])]) 0 (setN (setN [(T.int .i64 (0:Int)),(T.int .i64 (0:Int)),(T.lst 0 [])] 0 [(T.int .i64 i5)]) 2 [(T.lst n20 l21)])))
    gd (decide ((0≤i5)∧(i5<(n12:Int)))) (
    gd (Nat.ble ((((Int.toNat i5) * 5)+0)+1) (List.length l13)) (
    let l24:=(setN l13 (((Int.toNat i5) * 5)+0) [(T.lst 0 [])])
    bd (f45 n n22 l23 n12 l24) fun r25 =>
    sm r25 (fun u26 =>
     let n27:=u26.1
     let l28:=u26.2.1
     let n29:=u26.2.2.1
     let l30:=u26.2.2.2.1
     let b31:=u26.2.2.2.2.1
     let n32:=u26.2.2.2.2.2.1
     let l33:=u26.2.2.2.2.2.2.1
     let n34:=u26.2.2.2.2.2.2.2.1
     let l35:=u26.2.2.2.2.2.2.2.2
     some (n27,l28,n29,l30,b31)) (fun u36 =>
     let n37:=u36.1
     let l38:=u36.2.1
     let n39:=u36.2.2.1
     let l40:=u36.2.2.2.1
     let b41:=u36.2.2.2.2.1
     let n42:=u36.2.2.2.2.2.1
     let l43:=u36.2.2.2.2.2.2.1
     let n44:=u36.2.2.2.2.2.2.2.1
     let l45:=u36.2.2.2.2.2.2.2.2
     some (n37,l38,n39,l40,b41))))))
def f16.P:List Arg:=[qA27,qA20,qA20]
def f16.A:RAlt (Nat × List T × Nat × List T × Bool):=.one ⟨[qV2,qV17],[none,none,none]⟩ sg_llb
def f16.F (n:Nat) (v:Nat × List T × Nat × List T × Int × Int):=f16 n v.1 v.2.1 v.2.2.1 v.2.2.2.1 v.2.2.2.2.1 v.2.2.2.2.2
def f16.O (n:Nat):Orc:=orcOf (E:=E) [x43.w,f33.w,f42.w,f34.w,f45.w] [] n
theorem f16.ok:FnS 16 f16.P sg_llii f16.A f16.F:=fnS c16 f16.O
def f16.w:FnW E:=fnW 16 f16.P sg_llii f16.A f16.F f16.ok
def f35:Nat→Nat→Nat→Option (Bool)
 | 0,_,_=>none
 | n+1,x1,x2 =>
   br (fne .f64 x1 x1) (
    br (fne .f64 x1 x1) (
     some (fne .f64 x2 x2)) (
     some false)) (
    br (fne .f64 x2 x2) (
     br (fne .f64 x1 x1) (
      some (fne .f64 x2 x2)) (
      some false)) (
     br (feq .f64 x1 0) (
      br (feq .f64 x2 0) (
       some ((fgt .f64 (fdiv .f64 4607182418800017408 x1) 0)==(fgt .f64 (fdiv .f64 4607182418800017408 x2) 0))) (
       some (feq .f64 x1 x2))) (
      some (feq .f64 x1 x2))))
def f35.P:List Arg:=[⟨.val,⟨false,[.leaf],[.flt .f64 0]⟩⟩,⟨.val,⟨false,[.leaf],[.flt .f64 0]⟩⟩]
def f35.A:RAlt (Bool):=.one ⟨[qV17],[none,none]⟩ sg_b
def f35.F (n:Nat) (v:Nat × Nat):=f35 n v.1 v.2
def f35.O (n:Nat):Orc:=orcOf (E:=E) [] [] n
theorem f35.ok:FnS 35 f35.P sg_ff f35.A f35.F:=fnS c35 f35.O
def f35.w:FnW E:=fnW 35 f35.P sg_ff f35.A f35.F f35.ok
def f10.l0 (n:Nat):Nat→Nat→List T→Nat→List T→Int→Option ((Bool) ⊕ (Unit))
 | 0,_,_,_,_,_=>none
 | m+1,n1,l2,n3,l4,i5 =>
   br (decide (i5<(n1:Int))) (
    gd ((decide ((0≤i5)∧(i5<(n1:Int))))&&(okAt [(CK.flt .f32)] l2 (Int.toNat i5))) (
    bd ((fltToFlt .f32 (fAt l2 (Int.toNat i5)) .f64)) fun y6 =>
    gd ((decide ((0≤i5)∧(i5<(n3:Int))))&&(okAt [(CK.flt .f32)] l4 (Int.toNat i5))) (
    bd ((fltToFlt .f32 (fAt l4 (Int.toNat i5)) .f64)) fun y7 =>
    bd (f35 n y6 y7) fun r8 =>
    let b9:=r8
    br (!b9) (
     some (Sum.inl false)) (
     f10.l0 n m n1 l2 n3 l4 (IntKind.i64.wrap (i5+(1:Int))))))) (
    some (Sum.inr ()))
def f10:Nat→Nat→List T→Nat→List T→Option (Bool)
 | 0,_,_,_,_=>none
 | n+1,n1,l2,n3,l4 =>
   br ((n1:Int) != (n3:Int)) (
    some false) (
    bd (f10.l0 n n n1 l2 n3 l4 (0:Int)) fun r5 =>
    sm r5 (fun u6 =>
     let b7:=u6
     some b7) (fun u8 =>
     some true))
def f10.l0.P:AS:=⟨[(0,qS38),(1,qS38),(5,qS40)],0⟩
def f10.l0.A:Alt ((Bool) ⊕ (Unit)):=.or (.one .ret ⟨[(4,qS41)],0⟩ sg_b) (.one (.exit 0) ⟨[(4,.dead)],0⟩ sg)
def f10.l0.F (n m:Nat) (v:Nat × List T × Nat × List T × Int):=f10.l0 n m v.1 v.2.1 v.2.2.1 v.2.2.2.1 v.2.2.2.2
def f10.l0.W (n:Nat):LpW:=.of 64 f10.l0.P sg_lli f10.l0.A (f10.l0.F n n)
def f10.P:List Arg:=[qA19,qA19]
def f10.A:RAlt (Bool):=.one ⟨[qV17],[none,none]⟩ sg_b
def f10.F (n:Nat) (v:Nat × List T × Nat × List T):=f10 n v.1 v.2.1 v.2.2.1 v.2.2.2
def f10.O (n:Nat):Orc:=orcOf (E:=E) [f35.w] [f10.l0.W n] n
theorem f10.l0.ok:∀ n,LpS 10 c10 0 n (f10.O n):=lpS f10.l0.P sg_lli f10.l0.A f10.l0.F
theorem f10.ok:FnS 10 f10.P sg_ll f10.A f10.F:=fnS c10 f10.O [loopAt c10 0] (fun n=>(.cons (f10.l0.ok n) .nil))
def f10.w:FnW E:=fnW 10 f10.P sg_ll f10.A f10.F f10.ok
def f74:Nat→Int→Int→Nat→List T→Int→Int→Nat→List T→Option (Bool)
 | 0,_,_,_,_,_,_,_,_=>none
 | n+1,i1,i2,n3,l4,i5,i6,n7,l8 =>
   br (i1 != i5) (
    some false) (
    br (i2 != i6) (
     some false) (
     bd (f10 n n3 l4 n7 l8) fun r9 =>
     let b10:=r9
     br (!b10) (
      some false) (
      some true)))
def sg_iiliil:Sig (Int × Int × Nat × List T × Int × Int × Nat × List T) where
 pk:=fun v=>[.int v.1,.int v.2.1,.lst v.2.2.1 v.2.2.2.1,.int v.2.2.2.2.1,.int v.2.2.2.2.2.1,.lst v.2.2.2.2.2.2.1 v.2.2.2.2.2.2.2]
 up:=fun ls=>match ls with
  | [.int a0,.int a1,.lst a2 a3,.int a4,.int a5,.lst a6 a7]=>some (a0,a1,a2,a3,a4,a5,a6,a7)
  | _=>none
 ok:=by intro _ _ h;split at h <;>cases h;rfl
def f74.P:List Arg:=[qA24,qA24]
def f74.A:RAlt (Bool):=.one ⟨[qV17],[none,none]⟩ sg_b
def f74.F (n:Nat) (v:Int × Int × Nat × List T × Int × Int × Nat × List T):=f74 n v.1 v.2.1 v.2.2.1 v.2.2.2.1 v.2.2.2.2.1 v.2.2.2.2.2.1 v.2.2.2.2.2.2.1 v.2.2.2.2.2.2.2
def f74.O (n:Nat):Orc:=orcOf (E:=E) [f10.w] [] n
theorem f74.ok:FnS 74 f74.P sg_iiliil f74.A f74.F:=fnS c74 f74.O
def f74.w:FnW E:=fnW 74 f74.P sg_iiliil f74.A f74.F f74.ok
def f36.l0 (n:Nat):Nat→Nat→List T→Nat→List T→Int→Option ((Bool) ⊕ (Unit))
 | 0,_,_,_,_,_=>none
 | m+1,n1,l2,n3,l4,i5 =>
   br (decide (i5<(n1:Int))) (
    gd ((decide ((0≤i5)∧(i5<(n1:Int))))&&(okAt [(CK.int .i64),(CK.int .i64),CK.lst] l2 (((Int.toNat i5) * 3)+0))) (
    gd ((decide ((0≤i5)∧(i5<(n3:Int))))&&(okAt [(CK.int .i64),(CK.int .i64),CK.lst] l4 (((Int.toNat i5) * 3)+0))) (
    bd (f74 n (iAt l2 (((Int.toNat i5) * 3)+0)) (iAt l2 ((((Int.toNat i5) * 3)+0)+1)) (nAt l2 (((((Int.toNat i5) * 3)+0)+1)+1)) (lAt l2 (((((Int.toNat i5) * 3)+0)+1)+1)) (iAt l4 (((Int.toNat i5) * 3)+0)) (iAt l4 ((((Int.toNat i5) * 3)+0)+1)) (nAt l4 (((((Int.toNat i5) * 3)+0)+1)+1)) (lAt l4 (((((Int.toNat i5) * 3)+0)+1)+1))) fun r6 =>
    let b7:=r6
    br (!b7) (
     some (Sum.inl false)) (
     f36.l0 n m n1 l2 n3 l4 (IntKind.i64.wrap (i5+(1:Int))))))) (
    some (Sum.inr ()))
def f36:Nat→Nat→List T→Nat→List T→Option (Bool)
 | 0,_,_,_,_=>none
 | n+1,n1,l2,n3,l4 =>
   br ((n1:Int) != (n3:Int)) (
    some false) (
    bd (f36.l0 n n n1 l2 n3 l4 (0:Int)) fun r5 =>
    sm r5 (fun u6 =>
     let b7:=u6
     some b7) (fun u8 =>
     some true))
def f36.l0.P:AS:=⟨[(0,qS34),(1,qS34),(5,qS40)],0⟩
def f36.l0.A:Alt ((Bool) ⊕ (Unit)):=.or (.one .ret ⟨[(4,qS41)],0⟩ sg_b) (.one (.exit 0) ⟨[(4,.dead)],0⟩ sg)
def f36.l0.F (n m:Nat) (v:Nat × List T × Nat × List T × Int):=f36.l0 n m v.1 v.2.1 v.2.2.1 v.2.2.2.1 v.2.2.2.2
def f36.l0.W (n:Nat):LpW:=.of 64 f36.l0.P sg_lli f36.l0.A (f36.l0.F n n)
def f36.P:List Arg:=[qA21,qA21]
def f36.A:RAlt (Bool):=.one ⟨[qV17],[none,none]⟩ sg_b
def f36.F (n:Nat) (v:Nat × List T × Nat × List T):=f36 n v.1 v.2.1 v.2.2.1 v.2.2.2
def f36.O (n:Nat):Orc:=orcOf (E:=E) [f74.w] [f36.l0.W n] n
theorem f36.l0.ok:∀ n,LpS 36 c36 0 n (f36.O n):=lpS f36.l0.P sg_lli f36.l0.A f36.l0.F
theorem f36.ok:FnS 36 f36.P sg_ll f36.A f36.F:=fnS c36 f36.O [loopAt c36 0] (fun n=>(.cons (f36.l0.ok n) .nil))
def f36.w:FnW E:=fnW 36 f36.P sg_ll f36.A f36.F f36.ok
def f138:Nat→Int→Int→Nat→List T→Int→Int→Nat→List T→Option (Bool)
 | 0,_,_,_,_,_,_,_,_=>none
 | n+1,i1,i2,n3,l4,i5,i6,n7,l8 =>
   br (i1 != i5) (
    some false) (
    br (i2 != i6) (
     some false) (
     bd (f10 n n3 l4 n7 l8) fun r9 =>
     let b10:=r9
     br (!b10) (
      some false) (
      some true)))
def f138.P:List Arg:=[qA24,qA24]
def f138.A:RAlt (Bool):=.one ⟨[qV17],[none,none]⟩ sg_b
def f138.F (n:Nat) (v:Int × Int × Nat × List T × Int × Int × Nat × List T):=f138 n v.1 v.2.1 v.2.2.1 v.2.2.2.1 v.2.2.2.2.1 v.2.2.2.2.2.1 v.2.2.2.2.2.2.1 v.2.2.2.2.2.2.2
def f138.O (n:Nat):Orc:=orcOf (E:=E) [f10.w] [] n
theorem f138.ok:FnS 138 f138.P sg_iiliil f138.A f138.F:=fnS c138 f138.O
def f138.w:FnW E:=fnW 138 f138.P sg_iiliil f138.A f138.F f138.ok
def f110.l0 (n:Nat):Nat→Nat→List T→Nat→List T→Int→Option ((Bool) ⊕ (Unit))
 | 0,_,_,_,_,_=>none
 | m+1,n1,l2,n3,l4,i5 =>
   br (decide (i5<(n1:Int))) (
    gd ((decide ((0≤i5)∧(i5<(n1:Int))))&&(okAt [(CK.int .i64),(CK.int .i64),CK.lst] l2 (((Int.toNat i5) * 3)+0))) (
    gd ((decide ((0≤i5)∧(i5<(n3:Int))))&&(okAt [(CK.int .i64),(CK.int .i64),CK.lst] l4 (((Int.toNat i5) * 3)+0))) (
    bd (f138 n (iAt l2 (((Int.toNat i5) * 3)+0)) (iAt l2 ((((Int.toNat i5) * 3)+0)+1)) (nAt l2 (((((Int.toNat i5) * 3)+0)+1)+1)) (lAt l2 (((((Int.toNat i5) * 3)+0)+1)+1)) (iAt l4 (((Int.toNat i5) * 3)+0)) (iAt l4 ((((Int.toNat i5) * 3)+0)+1)) (nAt l4 (((((Int.toNat i5) * 3)+0)+1)+1)) (lAt l4 (((((Int.toNat i5) * 3)+0)+1)+1))) fun r6 =>
    let b7:=r6
    br (!b7) (
     some (Sum.inl false)) (
     f110.l0 n m n1 l2 n3 l4 (IntKind.i64.wrap (i5+(1:Int))))))) (
    some (Sum.inr ()))
def f110:Nat→Nat→List T→Nat→List T→Option (Bool)
 | 0,_,_,_,_=>none
 | n+1,n1,l2,n3,l4 =>
   br ((n1:Int) != (n3:Int)) (
    some false) (
    bd (f110.l0 n n n1 l2 n3 l4 (0:Int)) fun r5 =>
    sm r5 (fun u6 =>
     let b7:=u6
     some b7) (fun u8 =>
     some true))
def f110.l0.P:AS:=⟨[(0,qS34),(1,qS34),(5,qS40)],0⟩
def f110.l0.A:Alt ((Bool) ⊕ (Unit)):=.or (.one .ret ⟨[(4,qS41)],0⟩ sg_b) (.one (.exit 0) ⟨[(4,.dead)],0⟩ sg)
def f110.l0.F (n m:Nat) (v:Nat × List T × Nat × List T × Int):=f110.l0 n m v.1 v.2.1 v.2.2.1 v.2.2.2.1 v.2.2.2.2
def f110.l0.W (n:Nat):LpW:=.of 64 f110.l0.P sg_lli f110.l0.A (f110.l0.F n n)
def f110.P:List Arg:=[qA21,qA21]
def f110.A:RAlt (Bool):=.one ⟨[qV17],[none,none]⟩ sg_b
def f110.F (n:Nat) (v:Nat × List T × Nat × List T):=f110 n v.1 v.2.1 v.2.2.1 v.2.2.2
def f110.O (n:Nat):Orc:=orcOf (E:=E) [f138.w] [f110.l0.W n] n
theorem f110.l0.ok:∀ n,LpS 110 c110 0 n (f110.O n):=lpS f110.l0.P sg_lli f110.l0.A f110.l0.F
theorem f110.ok:FnS 110 f110.P sg_ll f110.A f110.F:=fnS c110 f110.O [loopAt c110 0] (fun n=>(.cons (f110.l0.ok n) .nil))
def f110.w:FnW E:=fnW 110 f110.P sg_ll f110.A f110.F f110.ok
def f75:Nat→Nat→List T→Int→Nat→Bool→Bool→Nat→List T→Int→Nat→Bool→Bool→Option (Bool)
 | 0,_,_,_,_,_,_,_,_,_,_,_,_=>none
 | n+1,n1,l2,i3,x4,b5,b6,n7,l8,i9,x10,b11,b12 =>
   bd (f110 n n1 l2 n7 l8) fun r13 =>
   let b14:=r13
   br (!b14) (
    some false) (
    br (i3 != i9) (
     some false) (
     bd ((fltToFlt .f32 x4 .f64)) fun y15 =>
     bd ((fltToFlt .f32 x10 .f64)) fun y16 =>
     bd (f35 n y15 y16) fun r17 =>
     let b18:=r17
     br (!b18) (
      some false) (
      br (!(b5==b11)) (
       some false) (
       br (!(b6==b12)) (
        some false) (
        some true)))))
def sg_lifbblifbb:Sig (Nat × List T × Int × Nat × Bool × Bool × Nat × List T × Int × Nat × Bool × Bool) where
 pk:=fun v=>[.lst v.1 v.2.1,.int v.2.2.1,.flt v.2.2.2.1,.bool v.2.2.2.2.1,.bool v.2.2.2.2.2.1,.lst v.2.2.2.2.2.2.1 v.2.2.2.2.2.2.2.1,.int v.2.2.2.2.2.2.2.2.1,.flt v.2.2.2.2.2.2.2.2.2.1,.bool v.2.2.2.2.2.2.2.2.2.2.1,.bool v.2.2.2.2.2.2.2.2.2.2.2]
 up:=fun ls=>match ls with
  | [.lst a0 a1,.int a2,.flt a3,.bool a4,.bool a5,.lst a6 a7,.int a8,.flt a9,.bool a10,.bool a11]=>some (a0,a1,a2,a3,a4,a5,a6,a7,a8,a9,a10,a11)
  | _=>none
 ok:=by intro _ _ h;split at h <;>cases h;rfl
def f75.P:List Arg:=[qA25,qA25]
def f75.A:RAlt (Bool):=.one ⟨[qV17],[none,none]⟩ sg_b
def f75.F (n:Nat) (v:Nat × List T × Int × Nat × Bool × Bool × Nat × List T × Int × Nat × Bool × Bool):=f75 n v.1 v.2.1 v.2.2.1 v.2.2.2.1 v.2.2.2.2.1 v.2.2.2.2.2.1 v.2.2.2.2.2.2.1 v.2.2.2.2.2.2.2.1 v.2.2.2.2.2.2.2.2.1 v.2.2.2.2.2.2.2.2.2.1 v.2.2.2.2.2.2.2.2.2.2.1 v.2.2.2.2.2.2.2.2.2.2.2
def f75.O (n:Nat):Orc:=orcOf (E:=E) [f35.w,f110.w] [] n
theorem f75.ok:FnS 75 f75.P sg_lifbblifbb f75.A f75.F:=fnS c75 f75.O
def f75.w:FnW E:=fnW 75 f75.P sg_lifbblifbb f75.A f75.F f75.ok
def f37.l0 (n:Nat):Nat→Nat→List T→Nat→List T→Int→Option ((Bool) ⊕ (Unit))
 | 0,_,_,_,_,_=>none
 | m+1,n1,l2,n3,l4,i5 =>
   br (decide (i5<(n1:Int))) (
    gd ((decide ((0≤i5)∧(i5<(n1:Int))))&&(okAt [CK.lst,(CK.int .i64),(CK.flt .f32),CK.bool,CK.bool] l2 (((Int.toNat i5) * 5)+0))) (
    gd ((decide ((0≤i5)∧(i5<(n3:Int))))&&(okAt [CK.lst,(CK.int .i64),(CK.flt .f32),CK.bool,CK.bool] l4 (((Int.toNat i5) * 5)+0))) (
    bd (f75 n (nAt l2 (((Int.toNat i5) * 5)+0)) (lAt l2 (((Int.toNat i5) * 5)+0)) (iAt l2 ((((Int.toNat i5) * 5)+0)+1)) (fAt l2 (((((Int.toNat i5) * 5)+0)+1)+1)) (bAt l2 ((((((Int.toNat i5) * 5)+0)+1)+1)+1)) (bAt l2 (((((((Int.toNat i5) * 5)+0)+1)+1)+1)+1)) (nAt l4 (((Int.toNat i5) * 5)+0)) (lAt l4 (((Int.toNat i5) * 5)+0)) (iAt l4 ((((Int.toNat i5) * 5)+0)+1)) (fAt l4 (((((Int.toNat i5) * 5)+0)+1)+1)) (bAt l4 ((((((Int.toNat i5) * 5)+0)+1)+1)+1)) (bAt l4 (((((((Int.toNat i5) * 5)+0)+1)+1)+1)+1))) fun r6 =>
    let b7:=r6
    br (!b7) (
     some (Sum.inl false)) (
     f37.l0 n m n1 l2 n3 l4 (IntKind.i64.wrap (i5+(1:Int))))))) (
    some (Sum.inr ()))
def f37:Nat→Nat→List T→Nat→List T→Option (Bool)
 | 0,_,_,_,_=>none
 | n+1,n1,l2,n3,l4 =>
   br ((n1:Int) != (n3:Int)) (
    some false) (
    bd (f37.l0 n n n1 l2 n3 l4 (0:Int)) fun r5 =>
    sm r5 (fun u6 =>
     let b7:=u6
     some b7) (fun u8 =>
     some true))
def f37.l0.P:AS:=⟨[(0,qS33),(1,qS33),(5,qS40)],0⟩
def f37.l0.A:Alt ((Bool) ⊕ (Unit)):=.or (.one .ret ⟨[(4,qS41)],0⟩ sg_b) (.one (.exit 0) ⟨[(4,.dead)],0⟩ sg)
def f37.l0.F (n m:Nat) (v:Nat × List T × Nat × List T × Int):=f37.l0 n m v.1 v.2.1 v.2.2.1 v.2.2.2.1 v.2.2.2.2
def f37.l0.W (n:Nat):LpW:=.of 64 f37.l0.P sg_lli f37.l0.A (f37.l0.F n n)
def f37.P:List Arg:=[qA26,qA26]
def f37.A:RAlt (Bool):=.one ⟨[qV17],[none,none]⟩ sg_b
def f37.F (n:Nat) (v:Nat × List T × Nat × List T):=f37 n v.1 v.2.1 v.2.2.1 v.2.2.2
def f37.O (n:Nat):Orc:=orcOf (E:=E) [f75.w] [f37.l0.W n] n
theorem f37.l0.ok:∀ n,LpS 37 c37 0 n (f37.O n):=lpS f37.l0.P sg_lli f37.l0.A f37.l0.F
theorem f37.ok:FnS 37 f37.P sg_ll f37.A f37.F:=fnS c37 f37.O [loopAt c37 0] (fun n=>(.cons (f37.l0.ok n) .nil))
def f37.w:FnW E:=fnW 37 f37.P sg_ll f37.A f37.F f37.ok
def f11:Nat→Nat→List T→Nat→List T→Nat→List T→Nat→List T→Option (Bool)
 | 0,_,_,_,_,_,_,_,_=>none
 | n+1,n1,l2,n3,l4,n5,l6,n7,l8 =>
   bd (f36 n n1 l2 n5 l6) fun r9 =>
   let b10:=r9
   br (!b10) (
    some false) (
    bd (f37 n n3 l4 n7 l8) fun r11 =>
    let b12:=r11
    br (!b12) (
     some false) (
     some true))
def f11.P:List Arg:=[qA27,qA27]
def f11.A:RAlt (Bool):=.one ⟨[qV17],[none,none]⟩ sg_b
def f11.F (n:Nat) (v:Nat × List T × Nat × List T × Nat × List T × Nat × List T):=f11 n v.1 v.2.1 v.2.2.1 v.2.2.2.1 v.2.2.2.2.1 v.2.2.2.2.2.1 v.2.2.2.2.2.2.1 v.2.2.2.2.2.2.2
def f11.O (n:Nat):Orc:=orcOf (E:=E) [f36.w,f37.w] [] n
theorem f11.ok:FnS 11 f11.P sg_llll f11.A f11.F:=fnS c11 f11.O
def f11.w:FnW E:=fnW 11 f11.P sg_llll f11.A f11.F f11.ok
def f13.l0 (n:Nat):Nat→Nat→List T→Int→Int→Option (Nat × List T × Int)
 | 0,_,_,_,_=>none
 | m+1,n1,l2,i3,i4 =>
   br (decide (i4<(n1:Int))) (
    gd (decide ((0≤i4)∧(i4<(n1:Int)))) (
    gd (Nat.ble ((Int.toNat i4)+1) (List.length l2)) (
    let l5:=(setN l2 (Int.toNat i4) [(T.flt .f32 (FloatKind.nearest .f32 i3))])
    let i6:=(IntKind.i64.wrap (i3+(1:Int)))
    f13.l0 n m n1 l5 i6 (IntKind.i64.wrap (i4+(1:Int)))))) (
    some (n1,l2,i3))
def f13:Nat→Nat→List T→Int→Option (Int × Nat × List T)
 | 0,_,_,_=>none
 | n+1,n1,l2,i3 =>
   bd (f13.l0 n n n1 l2 i3 (0:Int)) fun r4 =>
   let n5:=r4.1
   let l6:=r4.2.1
   let i7:=r4.2.2
   some (i7,n5,l6)
def sg_il:Sig (Int × Nat × List T) where
 pk:=fun v=>[.int v.1,.lst v.2.1 v.2.2]
 up:=fun ls=>match ls with
  | [.int a0,.lst a1 a2]=>some (a0,a1,a2)
  | _=>none
 ok:=by intro _ _ h;split at h <;>cases h;rfl
def f13.l0.P:AS:=⟨[(0,.val false [.sl .own [.leaf]] [.lst 0 []] [] 1),(1,qS40),(5,qS40)],0⟩
def f13.l0.A:Alt (Nat × List T × Int):=.one (.exit 0) ⟨[(0,.val false [.sl .own [.leaf]] [.lst 0 []] [] 1),(1,qS40)],0⟩ sg_li
def f13.l0.F (n m:Nat) (v:Nat × List T × Int × Int):=f13.l0 n m v.1 v.2.1 v.2.2.1 v.2.2.2
def f13.l0.W (n:Nat):LpW:=.of 32 f13.l0.P sg_lii f13.l0.A (f13.l0.F n n)
def f13.P:List Arg:=[⟨.io,qV15⟩,qA20]
def f13.A:RAlt (Int × Nat × List T):=.one ⟨[qV16],[some qV15,none]⟩ sg_il
def f13.F (n:Nat) (v:Nat × List T × Int):=f13 n v.1 v.2.1 v.2.2
def f13.O (n:Nat):Orc:=orcOf (E:=E) [] [f13.l0.W n] n
theorem f13.l0.ok:∀ n,LpS 13 c13 0 n (f13.O n):=lpS f13.l0.P sg_lii f13.l0.A f13.l0.F
theorem f13.ok:FnS 13 f13.P sg_li f13.A f13.F:=fnS c13 f13.O [loopAt c13 0] (fun n=>(.cons (f13.l0.ok n) .nil))
def f13.w:FnW E:=fnW 13 f13.P sg_li f13.A f13.F f13.ok
def f38.l0 (n:Nat):Nat→Nat→List T→Int→Int→Option (Nat × List T × Int)
 | 0,_,_,_,_=>none
 | m+1,n1,l2,i3,i4 =>
   br (decide (i4<(n1:Int))) (
    gd (decide ((0≤i4)∧(i4<(n1:Int)))) (
    gd (Nat.ble ((((Int.toNat i4) * 3)+0)+1) (List.length l2)) (
    let l5:=(setN l2 (((Int.toNat i4) * 3)+0) [(T.int .i64 i3)])
    let i6:=(IntKind.i64.wrap (i3+(1:Int)))
    gd (decide ((0≤i4)∧(i4<(n1:Int)))) (
    gd (Nat.ble ((((Int.toNat i4) * 3)+1)+1) (List.length l5)) (
    let l7:=(setN l5 (((Int.toNat i4) * 3)+1) [(T.int .i64 i6)])
    let i8:=(IntKind.i64.wrap (i6+(1:Int)))
    gd (decide ((0≤i4)∧(i4<(n1:Int)))) (
    gd (okAt [CK.lst] l7 (((Int.toNat i4) * 3)+2)) (
    gd ((okAt [CK.lst] l7 (((Int.toNat i4) * 3)+2))&&true) (
    gd ((okAt [CK.lst] l7 (((Int.toNat i4) * 3)+2))&&true) (
    bd (f13 n (nAt l7 (((Int.toNat i4) * 3)+2)) (lAt l7 (((Int.toNat i4) * 3)+2)) i8) fun r9 =>
    let i10:=r9.1
    let n11:=r9.2.1
    let l12:=r9.2.2
    let l13:=(setN l7 (((Int.toNat i4) * 3)+2) [(T.lst n11 l12)])
    f38.l0 n m n1 l13 i10 (IntKind.i64.wrap (i4+(1:Int)))))))))))) (
    some (n1,l2,i3))
def f38:Nat→Nat→List T→Int→Option (Int × Nat × List T)
 | 0,_,_,_=>none
 | n+1,n1,l2,i3 =>
   bd (f38.l0 n n n1 l2 i3 (0:Int)) fun r4 =>
   let n5:=r4.1
   let l6:=r4.2.1
   let i7:=r4.2.2
   some (i7,n5,l6)
def f38.l0.P:AS:=⟨[(0,qS36),(1,qS40),(5,qS40)],0⟩
def f38.l0.A:Alt (Nat × List T × Int):=.one (.exit 0) ⟨[(0,qS36),(1,qS40)],0⟩ sg_li
def f38.l0.F (n m:Nat) (v:Nat × List T × Int × Int):=f38.l0 n m v.1 v.2.1 v.2.2.1 v.2.2.2
def f38.l0.W (n:Nat):LpW:=.of 32 f38.l0.P sg_lii f38.l0.A (f38.l0.F n n)
def f38.P:List Arg:=[⟨.io,qV12⟩,qA20]
def f38.A:RAlt (Int × Nat × List T):=.one ⟨[qV16],[some qV12,none]⟩ sg_il
def f38.F (n:Nat) (v:Nat × List T × Int):=f38 n v.1 v.2.1 v.2.2
def f38.O (n:Nat):Orc:=orcOf (E:=E) [f13.w] [f38.l0.W n] n
theorem f38.l0.ok:∀ n,LpS 38 c38 0 n (f38.O n):=lpS f38.l0.P sg_lii f38.l0.A f38.l0.F
theorem f38.ok:FnS 38 f38.P sg_li f38.A f38.F:=fnS c38 f38.O [loopAt c38 0] (fun n=>(.cons (f38.l0.ok n) .nil))
def f38.w:FnW E:=fnW 38 f38.P sg_li f38.A f38.F f38.ok
def f76.l0 (n:Nat):Nat→Nat→List T→Int→Int→Option (Nat × List T × Int)
 | 0,_,_,_,_=>none
 | m+1,n1,l2,i3,i4 =>
   br (decide (i4<(n1:Int))) (
    gd (decide ((0≤i4)∧(i4<(n1:Int)))) (
    gd (Nat.ble ((((Int.toNat i4) * 3)+0)+1) (List.length l2)) (
    let l5:=(setN l2 (((Int.toNat i4) * 3)+0) [(T.int .i64 i3)])
    let i6:=(IntKind.i64.wrap (i3+(1:Int)))
    gd (decide ((0≤i4)∧(i4<(n1:Int)))) (
    gd (Nat.ble ((((Int.toNat i4) * 3)+1)+1) (List.length l5)) (
    let l7:=(setN l5 (((Int.toNat i4) * 3)+1) [(T.int .i64 i6)])
    let i8:=(IntKind.i64.wrap (i6+(1:Int)))
    gd (decide ((0≤i4)∧(i4<(n1:Int)))) (
    gd (okAt [CK.lst] l7 (((Int.toNat i4) * 3)+2)) (
    gd ((okAt [CK.lst] l7 (((Int.toNat i4) * 3)+2))&&true) (
    gd ((okAt [CK.lst] l7 (((Int.toNat i4) * 3)+2))&&true) (
    bd (f13 n (nAt l7 (((Int.toNat i4) * 3)+2)) (lAt l7 (((Int.toNat i4) * 3)+2)) i8) fun r9 =>
    let i10:=r9.1
    let n11:=r9.2.1
    let l12:=r9.2.2
    let l13:=(setN l7 (((Int.toNat i4) * 3)+2) [(T.lst n11 l12)])
    f76.l0 n m n1 l13 i10 (IntKind.i64.wrap (i4+(1:Int)))))))))))) (
    some (n1,l2,i3))
def f76:Nat→Nat→List T→Int→Option (Int × Nat × List T)
 | 0,_,_,_=>none
 | n+1,n1,l2,i3 =>
   bd (f76.l0 n n n1 l2 i3 (0:Int)) fun r4 =>
   let n5:=r4.1
   let l6:=r4.2.1
   let i7:=r4.2.2
   some (i7,n5,l6)
def f76.l0.P:AS:=⟨[(0,qS36),(1,qS40),(5,qS40)],0⟩
def f76.l0.A:Alt (Nat × List T × Int):=.one (.exit 0) ⟨[(0,qS36),(1,qS40)],0⟩ sg_li
def f76.l0.F (n m:Nat) (v:Nat × List T × Int × Int):=f76.l0 n m v.1 v.2.1 v.2.2.1 v.2.2.2
def f76.l0.W (n:Nat):LpW:=.of 32 f76.l0.P sg_lii f76.l0.A (f76.l0.F n n)
def f76.P:List Arg:=[⟨.io,qV12⟩,qA20]
def f76.A:RAlt (Int × Nat × List T):=.one ⟨[qV16],[some qV12,none]⟩ sg_il
def f76.F (n:Nat) (v:Nat × List T × Int):=f76 n v.1 v.2.1 v.2.2
def f76.O (n:Nat):Orc:=orcOf (E:=E) [f13.w] [f76.l0.W n] n
theorem f76.l0.ok:∀ n,LpS 76 c76 0 n (f76.O n):=lpS f76.l0.P sg_lii f76.l0.A f76.l0.F
theorem f76.ok:FnS 76 f76.P sg_li f76.A f76.F:=fnS c76 f76.O [loopAt c76 0] (fun n=>(.cons (f76.l0.ok n) .nil))
def f76.w:FnW E:=fnW 76 f76.P sg_li f76.A f76.F f76.ok
def f39.l0 (n:Nat):Nat→Nat→List T→Int→Int→Option (Nat × List T × Int)
 | 0,_,_,_,_=>none
 | m+1,n1,l2,i3,i4 =>
   br (decide (i4<(n1:Int))) (
    gd (decide ((0≤i4)∧(i4<(n1:Int)))) (
    gd (okAt [CK.lst] l2 (((Int.toNat i4) * 5)+0)) (
    gd ((okAt [CK.lst] l2 (((Int.toNat i4) * 5)+0))&&true) (
    gd ((okAt [CK.lst] l2 (((Int.toNat i4) * 5)+0))&&true) (
    bd (f76 n (nAt l2 (((Int.toNat i4) * 5)+0)) (lAt l2 (((Int.toNat i4) * 5)+0)) i3) fun r5 =>
    let i6:=r5.1
    let n7:=r5.2.1
    let l8:=r5.2.2
    let l9:=(setN l2 (((Int.toNat i4) * 5)+0) [(T.lst n7 l8)])
    gd (decide ((0≤i4)∧(i4<(n1:Int)))) (
    gd (Nat.ble ((((Int.toNat i4) * 5)+1)+1) (List.length l9)) (
    let l10:=(setN l9 (((Int.toNat i4) * 5)+1) [(T.int .i64 i6)])
    let i11:=(IntKind.i64.wrap (i6+(1:Int)))
    gd (decide ((0≤i4)∧(i4<(n1:Int)))) (
    gd (Nat.ble ((((Int.toNat i4) * 5)+2)+1) (List.length l10)) (
    let l12:=(setN l10 (((Int.toNat i4) * 5)+2) [(T.flt .f32 (FloatKind.nearest .f32 i11))])
    let i13:=(IntKind.i64.wrap (i11+(1:Int)))
    gd (decide ((0≤i4)∧(i4<(n1:Int)))) (
    gd (Nat.ble ((((Int.toNat i4) * 5)+3)+1) (List.length l12)) (
    let l14:=(setN l12 (((Int.toNat i4) * 5)+3) [(T.bool ((Int.tmod i13 (3:Int))==(0:Int)))])
    let i15:=(IntKind.i64.wrap (i13+(1:Int)))
    gd (decide ((0≤i4)∧(i4<(n1:Int)))) (
    gd (Nat.ble ((((Int.toNat i4) * 5)+4)+1) (List.length l14)) (
    let l16:=(setN l14 (((Int.toNat i4) * 5)+4) [(T.bool ((Int.tmod i15 (3:Int))==(0:Int)))])
    let i17:=(IntKind.i64.wrap (i15+(1:Int)))
    f39.l0 n m n1 l16 i17 (IntKind.i64.wrap (i4+(1:Int)))))))))))))))) (
    some (n1,l2,i3))
def f39:Nat→Nat→List T→Int→Option (Int × Nat × List T)
 | 0,_,_,_=>none
 | n+1,n1,l2,i3 =>
   bd (f39.l0 n n n1 l2 i3 (0:Int)) fun r4 =>
   let n5:=r4.1
   let l6:=r4.2.1
   let i7:=r4.2.2
   some (i7,n5,l6)
def f39.l0.P:AS:=⟨[(0,.val false [.sl .own [.sl .own [.leaf,.leaf,.sl .own [.leaf]],.leaf,.leaf,.leaf,.leaf]] [.lst 0 []] [] 1),(1,qS40),(5,qS40)],0⟩
def f39.l0.A:Alt (Nat × List T × Int):=.one (.exit 0) ⟨[(0,.val false [.sl .own [.sl .own [.leaf,.leaf,.sl .own [.leaf]],.leaf,.leaf,.leaf,.leaf]] [.lst 0 []] [] 1),(1,qS40)],0⟩ sg_li
def f39.l0.F (n m:Nat) (v:Nat × List T × Int × Int):=f39.l0 n m v.1 v.2.1 v.2.2.1 v.2.2.2
def f39.l0.W (n:Nat):LpW:=.of 32 f39.l0.P sg_lii f39.l0.A (f39.l0.F n n)
def f39.P:List Arg:=[⟨.io,qV6⟩,qA20]
def f39.A:RAlt (Int × Nat × List T):=.one ⟨[qV16],[some qV6,none]⟩ sg_il
def f39.F (n:Nat) (v:Nat × List T × Int):=f39 n v.1 v.2.1 v.2.2
def f39.O (n:Nat):Orc:=orcOf (E:=E) [f76.w] [f39.l0.W n] n
theorem f39.l0.ok:∀ n,LpS 39 c39 0 n (f39.O n):=lpS f39.l0.P sg_lii f39.l0.A f39.l0.F
theorem f39.ok:FnS 39 f39.P sg_li f39.A f39.F:=fnS c39 f39.O [loopAt c39 0] (fun n=>(.cons (f39.l0.ok n) .nil))
def f39.w:FnW E:=fnW 39 f39.P sg_li f39.A f39.F f39.ok
def f12:Nat→Nat→List T→Nat→List T→Int→Option (Int × Nat × List T × Nat × List T)
 | 0,_,_,_,_,_=>none
 | n+1,n1,l2,n3,l4,i5 =>
   bd (f38 n n1 l2 i5) fun r6 =>
   let i7:=r6.1
   let n8:=r6.2.1
   let l9:=r6.2.2
   bd (f39 n n3 l4 i7) fun r10 =>
   let i11:=r10.1
   let n12:=r10.2.1
   let l13:=r10.2.2
   some (i11,n8,l9,n12,l13)
def sg_ill:Sig (Int × Nat × List T × Nat × List T) where
 pk:=fun v=>[.int v.1,.lst v.2.1 v.2.2.1,.lst v.2.2.2.1 v.2.2.2.2]
 up:=fun ls=>match ls with
  | [.int a0,.lst a1 a2,.lst a3 a4]=>some (a0,a1,a2,a3,a4)
  | _=>none
 ok:=by intro _ _ h;split at h <;>cases h;rfl
def f12.P:List Arg:=[⟨.io,qV2⟩,qA20]
def f12.A:RAlt (Int × Nat × List T × Nat × List T):=.one ⟨[qV16],[some qV2,none]⟩ sg_ill
def f12.F (n:Nat) (v:Nat × List T × Nat × List T × Int):=f12 n v.1 v.2.1 v.2.2.1 v.2.2.2.1 v.2.2.2.2
def f12.O (n:Nat):Orc:=orcOf (E:=E) [f38.w,f39.w] [] n
theorem f12.ok:FnS 12 f12.P sg_lli f12.A f12.F:=fnS c12 f12.O
def f12.w:FnW E:=fnW 12 f12.P sg_lli f12.A f12.F f12.ok
def f14.l0 (n:Nat):Nat→Nat→List T→Int→Int→Option ((Int) ⊕ (Int))
 | 0,_,_,_,_=>none
 | m+1,n1,l2,i3,i4 =>
   br (decide (i4<(n1:Int))) (
    gd ((decide ((0≤i4)∧(i4<(n1:Int))))&&(okAt [(CK.flt .f32)] l2 (Int.toNat i4))) (
    br (fne .f32 (fAt l2 (Int.toNat i4)) (FloatKind.nearest .f32 i3)) (
     some (Sum.inl (-1:Int))) (
     let i5:=(IntKind.i64.wrap (i3+(1:Int)))
     f14.l0 n m n1 l2 i5 (IntKind.i64.wrap (i4+(1:Int)))))) (
    some (Sum.inr i3))
def f14:Nat→Nat→List T→Int→Option (Int)
 | 0,_,_,_=>none
 | n+1,n1,l2,i3 =>
   bd (f14.l0 n n n1 l2 i3 (0:Int)) fun r4 =>
   sm r4 (fun u5 =>
    let i6:=u5
    some i6) (fun u7 =>
    let i8:=u7
    some i8)
def f14.l0.P:AS:=⟨[(0,qS38),(1,qS40),(5,qS40)],0⟩
def f14.l0.A:Alt ((Int) ⊕ (Int)):=.or (.one .ret ⟨[(1,.dead),(4,qS40)],0⟩ sg_i) (.one (.exit 0) ⟨[(1,qS40),(4,.dead)],0⟩ sg_i)
def f14.l0.F (n m:Nat) (v:Nat × List T × Int × Int):=f14.l0 n m v.1 v.2.1 v.2.2.1 v.2.2.2
def f14.l0.W (n:Nat):LpW:=.of 32 f14.l0.P sg_lii f14.l0.A (f14.l0.F n n)
def f14.P:List Arg:=[qA19,qA20]
def f14.A:RAlt (Int):=.one ⟨[qV16],[none,none]⟩ sg_i
def f14.F (n:Nat) (v:Nat × List T × Int):=f14 n v.1 v.2.1 v.2.2
def f14.O (n:Nat):Orc:=orcOf (E:=E) [] [f14.l0.W n] n
theorem f14.l0.ok:∀ n,LpS 14 c14 0 n (f14.O n):=lpS f14.l0.P sg_lii f14.l0.A f14.l0.F
theorem f14.ok:FnS 14 f14.P sg_li f14.A f14.F:=fnS c14 f14.O [loopAt c14 0] (fun n=>(.cons (f14.l0.ok n) .nil))
def f14.w:FnW E:=fnW 14 f14.P sg_li f14.A f14.F f14.ok
def f46.l0 (n:Nat):Nat→Nat→List T→Int→Int→Option ((Int) ⊕ (Int))
 | 0,_,_,_,_=>none
 | m+1,n1,l2,i3,i4 =>
   br (decide (i4<(n1:Int))) (
    gd ((decide ((0≤i4)∧(i4<(n1:Int))))&&(okAt [(CK.int .i64),(CK.int .i64),CK.lst] l2 (((Int.toNat i4) * 3)+0))) (
    br ((iAt l2 (((Int.toNat i4) * 3)+0)) != i3) (
     some (Sum.inl (-1:Int))) (
     let i5:=(IntKind.i64.wrap (i3+(1:Int)))
     gd ((decide ((0≤i4)∧(i4<(n1:Int))))&&(okAt [(CK.int .i64),(CK.int .i64),CK.lst] l2 (((Int.toNat i4) * 3)+0))) (
     br ((iAt l2 ((((Int.toNat i4) * 3)+0)+1)) != i5) (
      some (Sum.inl (-1:Int))) (
      let i6:=(IntKind.i64.wrap (i5+(1:Int)))
      gd ((decide ((0≤i4)∧(i4<(n1:Int))))&&(okAt [(CK.int .i64),(CK.int .i64),CK.lst] l2 (((Int.toNat i4) * 3)+0))) (
      bd (f14 n (nAt l2 (((((Int.toNat i4) * 3)+0)+1)+1)) (lAt l2 (((((Int.toNat i4) * 3)+0)+1)+1)) i6) fun r7 =>
      let i8:=r7
      br (decide (i8<(0:Int))) (
       some (Sum.inl (-1:Int))) (
       f46.l0 n m n1 l2 i8 (IntKind.i64.wrap (i4+(1:Int)))))))))) (
    some (Sum.inr i3))
def f46:Nat→Nat→List T→Int→Option (Int)
 | 0,_,_,_=>none
 | n+1,n1,l2,i3 =>
   bd (f46.l0 n n n1 l2 i3 (0:Int)) fun r4 =>
   sm r4 (fun u5 =>
    let i6:=u5
    some i6) (fun u7 =>
    let i8:=u7
    some i8)
def f46.l0.P:AS:=⟨[(0,qS34),(1,qS40),(5,qS40)],0⟩
def f46.l0.A:Alt ((Int) ⊕ (Int)):=.or (.one .ret ⟨[(1,.dead),(4,qS40)],0⟩ sg_i) (.one (.exit 0) ⟨[(1,qS40),(4,.dead)],0⟩ sg_i)
def f46.l0.F (n m:Nat) (v:Nat × List T × Int × Int):=f46.l0 n m v.1 v.2.1 v.2.2.1 v.2.2.2
def f46.l0.W (n:Nat):LpW:=.of 32 f46.l0.P sg_lii f46.l0.A (f46.l0.F n n)
def f46.P:List Arg:=[qA21,qA20]
def f46.A:RAlt (Int):=.one ⟨[qV16],[none,none]⟩ sg_i
def f46.F (n:Nat) (v:Nat × List T × Int):=f46 n v.1 v.2.1 v.2.2
def f46.O (n:Nat):Orc:=orcOf (E:=E) [f14.w] [f46.l0.W n] n
theorem f46.l0.ok:∀ n,LpS 46 c46 0 n (f46.O n):=lpS f46.l0.P sg_lii f46.l0.A f46.l0.F
theorem f46.ok:FnS 46 f46.P sg_li f46.A f46.F:=fnS c46 f46.O [loopAt c46 0] (fun n=>(.cons (f46.l0.ok n) .nil))
def f46.w:FnW E:=fnW 46 f46.P sg_li f46.A f46.F f46.ok
def f82.l0 (n:Nat):Nat→Nat→List T→Int→Int→Option ((Int) ⊕ (Int))
 | 0,_,_,_,_=>none
 | m+1,n1,l2,i3,i4 =>
   br (decide (i4<(n1:Int))) (
    gd ((decide ((0≤i4)∧(i4<(n1:Int))))&&(okAt [(CK.int .i64),(CK.int .i64),CK.lst] l2 (((Int.toNat i4) * 3)+0))) (
    br ((iAt l2 (((Int.toNat i4) * 3)+0)) != i3) (
     some (Sum.inl (-1:Int))) (
     let i5:=(IntKind.i64.wrap (i3+(1:Int)))
     gd ((decide ((0≤i4)∧(i4<(n1:Int))))&&(okAt [(CK.int .i64),(CK.int .i64),CK.lst] l2 (((Int.toNat i4) * 3)+0))) (
     br ((iAt l2 ((((Int.toNat i4) * 3)+0)+1)) != i5) (
      some (Sum.inl (-1:Int))) (
      let i6:=(IntKind.i64.wrap (i5+(1:Int)))
      gd ((decide ((0≤i4)∧(i4<(n1:Int))))&&(okAt [(CK.int .i64),(CK.int .i64),CK.lst] l2 (((Int.toNat i4) * 3)+0))) (
      bd (f14 n (nAt l2 (((((Int.toNat i4) * 3)+0)+1)+1)) (lAt l2 (((((Int.toNat i4) * 3)+0)+1)+1)) i6) fun r7 =>
      let i8:=r7
      br (decide (i8<(0:Int))) (
       some (Sum.inl (-1:Int))) (
       f82.l0 n m n1 l2 i8 (IntKind.i64.wrap (i4+(1:Int)))))))))) (
    some (Sum.inr i3))
def f82:Nat→Nat→List T→Int→Option (Int)
 | 0,_,_,_=>none
 | n+1,n1,l2,i3 =>
   bd (f82.l0 n n n1 l2 i3 (0:Int)) fun r4 =>
   sm r4 (fun u5 =>
    let i6:=u5
    some i6) (fun u7 =>
    let i8:=u7
    some i8)
def f82.l0.P:AS:=⟨[(0,qS34),(1,qS40),(5,qS40)],0⟩
def f82.l0.A:Alt ((Int) ⊕ (Int)):=.or (.one .ret ⟨[(1,.dead),(4,qS40)],0⟩ sg_i) (.one (.exit 0) ⟨[(1,qS40),(4,.dead)],0⟩ sg_i)
def f82.l0.F (n m:Nat) (v:Nat × List T × Int × Int):=f82.l0 n m v.1 v.2.1 v.2.2.1 v.2.2.2
def f82.l0.W (n:Nat):LpW:=.of 32 f82.l0.P sg_lii f82.l0.A (f82.l0.F n n)
def f82.P:List Arg:=[qA21,qA20]
def f82.A:RAlt (Int):=.one ⟨[qV16],[none,none]⟩ sg_i
def f82.F (n:Nat) (v:Nat × List T × Int):=f82 n v.1 v.2.1 v.2.2
def f82.O (n:Nat):Orc:=orcOf (E:=E) [f14.w] [f82.l0.W n] n
theorem f82.l0.ok:∀ n,LpS 82 c82 0 n (f82.O n):=lpS f82.l0.P sg_lii f82.l0.A f82.l0.F
theorem f82.ok:FnS 82 f82.P sg_li f82.A f82.F:=fnS c82 f82.O [loopAt c82 0] (fun n=>(.cons (f82.l0.ok n) .nil))
def f82.w:FnW E:=fnW 82 f82.P sg_li f82.A f82.F f82.ok
def f47.l0 (n:Nat):Nat→Nat→List T→Int→Int→Option ((Int) ⊕ (Int))
 | 0,_,_,_,_=>none
 | m+1,n1,l2,i3,i4 =>
   br (decide (i4<(n1:Int))) (
    gd ((decide ((0≤i4)∧(i4<(n1:Int))))&&(okAt [CK.lst,(CK.int .i64),(CK.flt .f32),CK.bool,CK.bool] l2 (((Int.toNat i4) * 5)+0))) (
    bd (f82 n (nAt l2 (((Int.toNat i4) * 5)+0)) (lAt l2 (((Int.toNat i4) * 5)+0)) i3) fun r5 =>
    let i6:=r5
    br (decide (i6<(0:Int))) (
     some (Sum.inl (-1:Int))) (
     gd ((decide ((0≤i4)∧(i4<(n1:Int))))&&(okAt [CK.lst,(CK.int .i64),(CK.flt .f32),CK.bool,CK.bool] l2 (((Int.toNat i4) * 5)+0))) (
     br ((iAt l2 ((((Int.toNat i4) * 5)+0)+1)) != i6) (
      some (Sum.inl (-1:Int))) (
      let i7:=(IntKind.i64.wrap (i6+(1:Int)))
      gd ((decide ((0≤i4)∧(i4<(n1:Int))))&&(okAt [CK.lst,(CK.int .i64),(CK.flt .f32),CK.bool,CK.bool] l2 (((Int.toNat i4) * 5)+0))) (
      br (fne .f32 (fAt l2 (((((Int.toNat i4) * 5)+0)+1)+1)) (FloatKind.nearest .f32 i7)) (
       some (Sum.inl (-1:Int))) (
       let i8:=(IntKind.i64.wrap (i7+(1:Int)))
       gd ((decide ((0≤i4)∧(i4<(n1:Int))))&&(okAt [CK.lst,(CK.int .i64),(CK.flt .f32),CK.bool,CK.bool] l2 (((Int.toNat i4) * 5)+0))) (
       br (!((bAt l2 ((((((Int.toNat i4) * 5)+0)+1)+1)+1))==((Int.tmod i8 (3:Int))==(0:Int)))) (
        some (Sum.inl (-1:Int))) (
        let i9:=(IntKind.i64.wrap (i8+(1:Int)))
        gd ((decide ((0≤i4)∧(i4<(n1:Int))))&&(okAt [CK.lst,(CK.int .i64),(CK.flt .f32),CK.bool,CK.bool] l2 (((Int.toNat i4) * 5)+0))) (
        br (!((bAt l2 (((((((Int.toNat i4) * 5)+0)+1)+1)+1)+1))==((Int.tmod i9 (3:Int))==(0:Int)))) (
         some (Sum.inl (-1:Int))) (
         let i10:=(IntKind.i64.wrap (i9+(1:Int)))
         f47.l0 n m n1 l2 i10 (IntKind.i64.wrap (i4+(1:Int)))))))))))))) (
    some (Sum.inr i3))
def f47:Nat→Nat→List T→Int→Option (Int)
 | 0,_,_,_=>none
 | n+1,n1,l2,i3 =>
   bd (f47.l0 n n n1 l2 i3 (0:Int)) fun r4 =>
   sm r4 (fun u5 =>
    let i6:=u5
    some i6) (fun u7 =>
    let i8:=u7
    some i8)
def f47.l0.P:AS:=⟨[(0,qS33),(1,qS40),(5,qS40)],0⟩
def f47.l0.A:Alt ((Int) ⊕ (Int)):=.or (.one .ret ⟨[(1,.dead),(4,qS40)],0⟩ sg_i) (.one (.exit 0) ⟨[(1,qS40),(4,.dead)],0⟩ sg_i)
def f47.l0.F (n m:Nat) (v:Nat × List T × Int × Int):=f47.l0 n m v.1 v.2.1 v.2.2.1 v.2.2.2
def f47.l0.W (n:Nat):LpW:=.of 32 f47.l0.P sg_lii f47.l0.A (f47.l0.F n n)
def f47.P:List Arg:=[qA26,qA20]
def f47.A:RAlt (Int):=.one ⟨[qV16],[none,none]⟩ sg_i
def f47.F (n:Nat) (v:Nat × List T × Int):=f47 n v.1 v.2.1 v.2.2
def f47.O (n:Nat):Orc:=orcOf (E:=E) [f82.w] [f47.l0.W n] n
theorem f47.l0.ok:∀ n,LpS 47 c47 0 n (f47.O n):=lpS f47.l0.P sg_lii f47.l0.A f47.l0.F
theorem f47.ok:FnS 47 f47.P sg_li f47.A f47.F:=fnS c47 f47.O [loopAt c47 0] (fun n=>(.cons (f47.l0.ok n) .nil))
def f47.w:FnW E:=fnW 47 f47.P sg_li f47.A f47.F f47.ok
def f17:Nat→Nat→List T→Nat→List T→Int→Option (Int)
 | 0,_,_,_,_,_=>none
 | n+1,n1,l2,n3,l4,i5 =>
   bd (f46 n n1 l2 i5) fun r6 =>
   let i7:=r6
   br (decide (i7<(0:Int))) (
    some (-1:Int)) (
    bd (f47 n n3 l4 i7) fun r8 =>
    let i9:=r8
    br (decide (i9<(0:Int))) (
     some (-1:Int)) (
     some i9))
def f17.P:List Arg:=[qA27,qA20]
def f17.A:RAlt (Int):=.one ⟨[qV16],[none,none]⟩ sg_i
def f17.F (n:Nat) (v:Nat × List T × Nat × List T × Int):=f17 n v.1 v.2.1 v.2.2.1 v.2.2.2.1 v.2.2.2.2
def f17.O (n:Nat):Orc:=orcOf (E:=E) [f46.w,f47.w] [] n
theorem f17.ok:FnS 17 f17.P sg_lli f17.A f17.F:=fnS c17 f17.O
def f17.w:FnW E:=fnW 17 f17.P sg_lli f17.A f17.F f17.ok
def f4:Nat→Nat→List T→Nat→List T→Int→Int→Option (Bool)
 | 0,_,_,_,_,_,_=>none
 | n+1,n1,l2,n3,l4,i5,i6 =>
   bd (f6 n n1 l2 n3 l4 (1048576:Int)) fun r7 =>
   let i8:=r7
   br (decide (i8<(0:Int))) (
    some true) (
    bd (f8 n n1 l2 n3 l4) fun r9 =>
    let n10:=r9.1
    let l11:=r9.2.1
    let n12:=r9.2.2.1
    let l13:=r9.2.2.2
    bd (f15 n n10 l11 n12 l13 i5 i6) fun r14 =>
    let n15:=r14.1
    let l16:=r14.2.1
    let n17:=r14.2.2.1
    let l18:=r14.2.2.2.1
    let b19:=r14.2.2.2.2
    bd (f8 n n1 l2 n3 l4) fun r20 =>
    let n21:=r20.1
    let l22:=r20.2.1
    let n23:=r20.2.2.1
    let l24:=r20.2.2.2
    bd (f16 n n21 l22 n23 l24 i5 i6) fun r25 =>
    let n26:=r25.1
    let l27:=r25.2.1
    let n28:=r25.2.2.1
    let l29:=r25.2.2.2.1
    let b30:=r25.2.2.2.2
    bd (f11 n n26 l27 n28 l29 n15 l16 n17 l18) fun r31 =>
    let b32:=r31
    br (!b32) (
     some false) (
     br (!(b30==b19)) (
      some false) (
      bd (f8 n n1 l2 n3 l4) fun r33 =>
      let n34:=r33.1
      let l35:=r33.2.1
      let n36:=r33.2.2.1
      let l37:=r33.2.2.2
      bd (f11 n n21 l22 n23 l24 n34 l35 n36 l37) fun r38 =>
      let b39:=r38
      br (!b39) (
       some false) (
       bd (f12 n n21 l22 n23 l24 (1:Int)) fun r40 =>
       let i41:=r40.1
       br (decide (i41<(0:Int))) (
        some false) (
        bd (f11 n n26 l27 n28 l29 n15 l16 n17 l18) fun r46 =>
        let b47:=r46
        br (!b47) (
         some false) (
         br (!(b30==b19)) (
          some false) (
          bd (f12 n n26 l27 n28 l29 (1:Int)) fun r48 =>
          let i49:=r48.1
          let n50:=r48.2.1
          let l51:=r48.2.2.1
          let n52:=r48.2.2.2.1
          let l53:=r48.2.2.2.2
          bd (f17 n n50 l51 n52 l53 (1:Int)) fun r54 =>
          let i55:=r54
          br (decide (i55<(0:Int))) (
           some false) (
           br (i55 != i49) (
            some false) (
            bd (f8 n n1 l2 n3 l4) fun r56 =>
            let n57:=r56.1
            let l58:=r56.2.1
            let n59:=r56.2.2.1
            let l60:=r56.2.2.2
            bd (f16 n n57 l58 n59 l60 i5 i6) fun r61 =>
            let n62:=r61.1
            let l63:=r61.2.1
            let n64:=r61.2.2.1
            let l65:=r61.2.2.2.1
            let b66:=r61.2.2.2.2
            bd (f11 n n62 l63 n64 l65 n15 l16 n17 l18) fun r67 =>
            let b68:=r67
            br (!b68) (
             some false) (
             br (!(b66==b19)) (
              some false) (
              bd (f17 n n50 l51 n52 l53 (1:Int)) fun r69 =>
              let i70:=r69
              br (decide (i70<(0:Int))) (
               some false) (
               br (i70 != i49) (
                some false) (
                some true)))))))))))))
def f4.P:List Arg:=[qA27,qA20,qA20]
def f4.A:RAlt (Bool):=.one ⟨[qV17],[none,none,none]⟩ sg_b
def f4.F (n:Nat) (v:Nat × List T × Nat × List T × Int × Int):=f4 n v.1 v.2.1 v.2.2.1 v.2.2.2.1 v.2.2.2.2.1 v.2.2.2.2.2
def f4.O (n:Nat):Orc:=orcOf (E:=E) [f6.w,f8.w,f15.w,f16.w,f11.w,f12.w,f17.w] [] n
theorem f4.ok:FnS 4 f4.P sg_llii f4.A f4.F:=fnS c4 f4.O
def f4.w:FnW E:=fnW 4 f4.P sg_llii f4.A f4.F f4.ok
end Go.Proofs.YtdobhipbgpiceaaGreat.D
end
section
namespace Go.Proofs.YtdobhipbgpiceaaGreat.D
open Go Go.Desk
set_option linter.unusedVariables false
theorem s_few (n k:Nat) (l:List T):f65 (n+1) k l=some (decide ((k:Int)≤256)):=by rw[f65]
theorem i_few (n k:Nat) (l:List T):f91 (n+1) k l=some (decide ((k:Int)≤256)):=by rw[f91]
theorem s_in (n:Nat) (a b c:Int):f28 (n+1) a b c=some (decide (b≤a∧a≤c)):=by
 rw[f28]
 by_cases h:b≤a <;>simp[br,h]
theorem i_in (n:Nat) (a b c:Int):f92 (n+1) a b c=some (decide (b≤a∧a≤c)):=by
 rw[f92]
 by_cases h:b≤a <;>simp[br,h]
theorem i_sub (n:Nat) {x:Nat} (h:x<4294967296):f160 (n+1) x=some (sub32 x):=by
 rw[f160,← sub_key h]
 cases fne .f32 x 0 <;>cases flt .f32 x 8388608 <;>rfl
theorem i_flush (n:Nat) {x:Nat} (h:W32 x):f133 (n+2) x=some (flushM x):=by
 rw[f133,i_sub n h.1,bd_s,br_not]
 have hx:=h.1
 cases hs:sub32 x
 ·rw[br_f]
  unfold sub32 at hs
  unfold flushM
  simp at hs
  split
  ·congr 1;omega
  ·rfl
 ·have hs' :=hs
  unfold sub32 at hs
  simp at hs
  have hn:isNaN .f32 x=false:=by rw[nan32];simp;omega
  obtain ⟨y,e1,e2⟩:=copy_zero n hx hn
  rw[br_t,fltToFlt_wide]
  simp only[bd_s,e1,e2]
  unfold flushM
  rw[if_pos hs.2]
theorem i_flushedq (n:Nat) {x:Nat} (b:Bool) (h:W32 x):f173 (n+3) x b=some (fl? b x):=by
 rw[f173]
 cases b
 ·rfl
 ·simp only[br_t,i_flush n h,bd_s];rfl
theorem i_fstep (n:Nat) (f:Filt) (form:Int) (b:Bool) (m:Mem) (x:Nat) (hm:WMem m) (hx:W32 x) :
  f159 (n+4) f.1 f.2.1 f.2.2.1 f.2.2.2.1 f.2.2.2.2 form b m.1 m.2.1 m.2.2.1 m.2.2.2 x =
   some ((fstep f form b m x).1,(fstep f form b m x).2.1,(fstep f form b m x).2.2.1,(fstep f form b m x).2.2.2.1,(fstep f form b m x).2.2.2.2):=by
 obtain ⟨m1,m2,m3,m4⟩:=hm
 rw[f159]
 unfold fstep
 by_cases h0:form=0
 ·simp only[h0,beq_self_eq_true,br_t,if_true,i_flushedq n b (w32_fsub _ _),bd_s,i_flushedq n b hx,i_flushedq n b m1,i_flushedq n b m3,i_flushedq n b (w32_fl? (b:=b) (w32_fsub _ _))]
 ·have h0':(form==0)=false:=by simp[h0]
  simp only[h0',br_f,if_neg h0]
  by_cases h1:form=1
  ·simp only[h1,beq_self_eq_true,br_t,if_true,i_flushedq n b (w32_fsub _ _),i_flushedq n b (w32_fadd _ _),i_flushedq n b w32_zero,bd_s]
  ·have h1':(form==1)=false:=by simp[h1]
   simp only[h1',br_f,if_neg h1,i_flushedq n b (w32_fsub _ _),bd_s,i_flushedq n b (w32_fadd _ _),i_flushedq n b (w32_fl? (b:=b) (w32_fsub _ _)),i_flushedq n b m1,i_flushedq n b w32_zero]
theorem i_frun_loop (n:Nat) (f:Filt) (form:Int) (b:Bool) (N:Nat) (cs:List T) (u:Mem):∀ (zs p acc:List Nat) (mm:Mem) (m:Nat),(∀ x∈zs,W32 x)→WMem mm→acc.length+zs.length<1048576→p.length+zs.length<1048576→zs.length<m →
  f131.l0 (n+4) m form b N cs f.1 f.2.1 f.2.2.1 f.2.2.2.1 f.2.2.2.2 mm.1 mm.2.1 mm.2.2.1 mm.2.2.2 u.1 u.2.1 u.2.2.1 u.2.2.2 acc.length (fls .f32 acc) (p++zs).length (fls .f32 (p++zs)) ((p++zs).length:Int) (p.length:Int) =
   some ((scan (fstep f form b) mm zs).2.1,(scan (fstep f form b) mm zs).2.2.1,(scan (fstep f form b) mm zs).2.2.2.1,(scan (fstep f form b) mm zs).2.2.2.2,u.1,u.2.1,u.2.2.1,u.2.2.2,(acc++(scan (fstep f form b) mm zs).1).length,fls .f32 (acc++(scan (fstep f form b) mm zs).1)):=by
 intro zs
 induction zs with
 | nil =>
   intro p acc mm m _ _ _ _ hm
   obtain ⟨m,rfl⟩:∃ k,m=k+1:=⟨m - 1,by omega⟩
   rw[f131.l0,lt_end]
   simp[br_f,scan]
 | cons z zs ih =>
   intro p acc mm m hz hmm ha hp hm
   obtain ⟨m,rfl⟩:∃ k,m=k+1:=⟨m - 1,by omega⟩
   have hp':p.length<1048576:=by simp at hp;omega
   have ha':acc.length<1048576:=by simp at ha;omega
   have hw:=hz z (by simp)
   rw[f131.l0,lt_mid,in_mid,toNat_len,okAt_mid,fAt_mid]
   simp only[br_t,gd_t,Bool.and_self,i_fstep n f form b mm z hmm hw,bd_s,push_ok (show acc.length<2147483648 by omega),push_fls,wrap_len (z:=z) (show p.length<4611686018427387904 by omega)]
   have:=ih (p++[z]) (acc++[(fstep f form b mm z).1]) (fstep f form b mm z).2 m (fun x hx=>hz x (by simp[hx])) (fstep_w32 hmm hw).2 (by simp at ha ⊢;omega) (by simp at hp ⊢;omega) (by simp at hm;omega)
   simpa [scan] using this
theorem i_frun (n:Nat) (f:Filt) (form:Int) (b:Bool) (mm:Mem) (xs:List Nat) (hx:∀ x∈xs,W32 x) (hm:WMem mm) (hl:xs.length<1048576) (hn:xs.length<n) :
  f131 (n+5) f.1 f.2.1 f.2.2.1 f.2.2.2.1 f.2.2.2.2 form b mm.1 mm.2.1 mm.2.2.1 mm.2.2.2 xs.length (fls .f32 xs) =
   some ((scan (fstep f form b) mm xs).1.length,fls .f32 (scan (fstep f form b) mm xs).1,(scan (fstep f form b) mm xs).2.1,(scan (fstep f form b) mm xs).2.2.1,(scan (fstep f form b) mm xs).2.2.2.1,(scan (fstep f form b) mm xs).2.2.2.2):=by
 rw[f131]
 have e:=i_frun_loop n f form b xs.length (fls .f32 xs) (0,0,0,0) xs [] [] mm (n+4) hx hm (by simpa using hl) (by simpa using hl) (by omega)
 have e:f131.l0 (n+4) (n+4) form b xs.length (fls .f32 xs) f.1 f.2.1 f.2.2.1 f.2.2.2.1 f.2.2.2.2 mm.1 mm.2.1 mm.2.2.1 mm.2.2.2 0 0 0 0 0 [] xs.length (fls .f32 xs) (xs.length:Int) 0=_:=e
 rw[e];rfl
theorem i_zeroed (n k:Nat) (h:k≤2147483648):f93 (n+1) (k:Int)=some (k,fls .f32 (List.replicate k 0)):=by
 rw[f93,decide_eq_true (show (0:Int)≤(k:Int)∧(k:Int)≤2147483648 by omega),gd_t,Int.toNat_natCast,reps_fls]
theorem i_copy (n:Nat) (xs:List Nat) (h:xs.length≤2147483648):f79 (n+1) xs.length (fls .f32 xs)=some (xs.length,fls .f32 xs):=by
 rw[f79,Nat.zero_add,le_ble h];rfl
theorem i_taken (n:Nat) (w:Nat) (ws:List Nat) (x:Nat) (h:ws.length<2147483648):f132 (n+2) (w::ws).length (fls .f32 (w::ws)) x=some ((ws++[x]).length,fls .f32 (ws++[x])):=by
 rw[f132,decide_eq_true (by simp;omega:(0:Int)≤1∧(1:Int)≤((w::ws).length:Int)∧((w::ws).length:Int)≤((w::ws).length:Int)),fls_drop,fls_take]
 rw[show (w::ws).length - 1=ws.length by simp,show ((w::ws).drop 1).take ws.length=ws by simp,i_copy n ws (by omega)]
 simp only[gd_t,bd_s,push_ok h,push_fls]
 rw[push_len (z:=x)]
theorem i_sized (n:Nat) (x:Int):f58 (n+1) x=some x:=by rw[f58]
theorem i_finite (n:Nat) (x:Nat):f168 (n+1) x=some (fin32 x):=by rw[f168,sub_finite]
theorem s_fromx (n:Nat) {i:Int} (h0:0≤i) (h1:i<4294967296):f142 (n+2) i=some (canon .f32 i.toNat):=by
 rw[f142,u32_wrap h0 h1]
 show bd (if 0≤i then some (canon .f32 i.toNat) else none) _=_
 rw[if_pos h0];rfl
theorem i_scale_loop (n:Nat) (N:Nat) (cs:List T) (by_:Nat):∀ (zs p acc:List Nat) (m:Nat),acc.length+zs.length<1048576→p.length+zs.length<1048576→zs.length<m →
  f130.l0 n m N cs by_ acc.length (fls .f32 acc) (p++zs).length (fls .f32 (p++zs)) ((p++zs).length:Int) (p.length:Int)=some ((acc++zs.map fun z=>fmul .f32 z by_).length,fls .f32 (acc++zs.map fun z=>fmul .f32 z by_)):=by
 intro zs
 induction zs with
 | nil =>
   intro p acc m _ _ hm
   obtain ⟨m,rfl⟩:∃ k,m=k+1:=⟨m - 1,by omega⟩
   rw[f130.l0,lt_end]
   simp[br_f]
 | cons z zs ih =>
   intro p acc m ha hp hm
   obtain ⟨m,rfl⟩:∃ k,m=k+1:=⟨m - 1,by omega⟩
   have ha':acc.length<1048576:=by simp at ha;omega
   rw[f130.l0,lt_mid,in_mid,toNat_len,okAt_mid,fAt_mid]
   have:=ih (p++[z]) (acc++[fmul .f32 z by_]) m (by simp at ha ⊢;omega) (by simp at hp ⊢;omega) (by simp at hm;omega)
   simp only[br_t,gd_t,Bool.and_self,push_fls,push_ok (show acc.length<2147483648 by omega),wrap_len (z:=z) (show p.length<4611686018427387904 by simp at hp;omega)]
   simpa using this
theorem i_scaledq (n:Nat) (xs:List Nat) (by_:Nat) (hx:xs.length<1048576) (hn:xs.length<n):f130 (n+1) xs.length (fls .f32 xs) by_=some ((xs.map fun z=>fmul .f32 z by_).length,fls .f32 (xs.map fun z=>fmul .f32 z by_)):=by
 rw[f130]
 have e:=i_scale_loop n xs.length (fls .f32 xs) by_ xs [] [] n (by simpa using hx) (by simpa using hx) (by omega)
 have e:f130.l0 n n xs.length (fls .f32 xs) by_ 0 [] xs.length (fls .f32 xs) (xs.length:Int) 0=some ((xs.map fun z=>fmul .f32 z by_).length,fls .f32 (xs.map fun z=>fmul .f32 z by_)):=e
 rw[e];rfl
theorem i_absolute (n:Nat) {x:Nat} (hg:W32 x):f177 (n+2) x=some (size32 x):=by
 obtain ⟨h1,h2⟩:=abs_size hg.1 hg.2 n
 rw[f177,fltToFlt_wide]
 simp only[bd,h1,h2]
def peakM (m:Nat) (xs:List Nat):Nat:=xs.foldl (fun m x=>if fgt .f32 (size32 x) m then size32 x else m) m
theorem i_peak_loop (n:Nat) (N:Nat) (cs:List T):∀ (zs p:List Nat) (mx m:Nat),(∀ x∈zs,W32 x)→p.length+zs.length<1048576→zs.length<m →
  f164.l0 (n+2) m N cs mx (p++zs).length (fls .f32 (p++zs)) ((p++zs).length:Int) (p.length:Int)=some (peakM mx zs):=by
 intro zs
 induction zs with
 | nil =>
   intro p mx m _ _ hm
   obtain ⟨m,rfl⟩:∃ k,m=k+1:=⟨m - 1,by omega⟩
   rw[f164.l0,lt_end];rfl
 | cons z zs ih =>
   intro p mx m hz hp hm
   obtain ⟨m,rfl⟩:∃ k,m=k+1:=⟨m - 1,by omega⟩
   have ih' :=fun mx=>ih (p++[z]) mx m (fun x hx=>hz x (by simp[hx])) (by simp at hp ⊢;omega) (by simp at hm;omega)
   simp only[List.append_assoc,List.cons_append,List.nil_append] at ih'
   rw[f164.l0,lt_mid,in_mid,toNat_len,okAt_mid,fAt_mid]
   simp only[br_t,gd_t,Bool.and_self,i_absolute n (hz z (by simp)),bd_s,wrap_len (z:=z) (show p.length<4611686018427387904 by simp at hp;omega)]
   show _=some (peakM (if fgt .f32 (size32 z) mx then size32 z else mx) zs)
   cases fgt .f32 (size32 z) mx
   ·exact ih' mx
   ·exact ih' _
theorem i_peak (n:Nat) (xs:List Nat) (hx:∀ x∈xs,W32 x) (hl:xs.length<1048576) (hn:xs.length<n):f164 (n+3) xs.length (fls .f32 xs)=some (peakM 0 xs):=by
 rw[f164]
 have e:=i_peak_loop n xs.length (fls .f32 xs) xs [] 0 (n+2) hx (by simpa using hl) (by omega)
 have e:f164.l0 (n+2) (n+2) xs.length (fls .f32 xs) 0 xs.length (fls .f32 xs) (xs.length:Int) 0=some (peakM 0 xs):=e
 rw[e];rfl
theorem i_fol (n:Nat) (a r:Nat) {l x:Nat} (hx:W32 x):f175 (n+3) a r l x=some (a,r,levelM a r l x):=by
 rw[f175,i_absolute n hx]
 unfold levelM
 simp only[bd_s,i_flush n (w32_fadd _ _)]
 cases fgt .f32 (size32 x) l <;>rfl
theorem i_gain (n l t q:Nat):f176 (n+1) l t q=some (gainM l t q):=by
 rw[f176]
 unfold gainM
 cases fgt .f32 l t <;>rfl
theorem i_duck_loop (n:Nat) (a r t q u1 u2 u3 u4 u5:Nat) (M:Nat) (cs:List T):∀ (zs ys p s acc:List Nat) (l m:Nat),ys.length=zs.length→s.length=p.length→(∀ x∈ys,W32 x)→acc.length+zs.length<1048576→p.length+zs.length<1048576→zs.length<m →
  f162.l0 (n+3) m M cs (s++ys).length (fls .f32 (s++ys)) a r l t q u1 u2 u3 u4 u5 acc.length (fls .f32 acc) (p++zs).length (fls .f32 (p++zs)) ((p++zs).length:Int) (p.length:Int) =
   some (a,r,(scan (duckStep a r t q) l (zs.zip ys)).2,t,q,u1,u2,u3,u4,u5,(acc++(scan (duckStep a r t q) l (zs.zip ys)).1).length,fls .f32 (acc++(scan (duckStep a r t q) l (zs.zip ys)).1)):=by
 intro zs
 induction zs with
 | nil =>
   intro ys p s acc l m _ _ _ _ _ hm
   obtain ⟨m,rfl⟩:∃ k,m=k+1:=⟨m - 1,by omega⟩
   rw[f162.l0,lt_end];simp[br_f,scan]
 | cons z zs ih =>
   intro ys p s acc l m hl hs hy ha hp hm
   obtain ⟨m,rfl⟩:∃ k,m=k+1:=⟨m - 1,by omega⟩
   cases ys with
   | nil=>simp at hl
   | cons y ys =>
     have e1:okAt [.flt .f32] (fls .f32 (s++y::ys)) p.length=true:=by rw[← hs];exact okAt_mid
     have e2:fAt (fls .f32 (s++y::ys)) p.length=y:=by rw[← hs];exact fAt_mid
     have e3:decide ((0:Int)≤(p.length:Int)∧(p.length:Int)<((s++y::ys).length:Int))=true:=by rw[← hs];exact in_mid
     have ha':acc.length<1048576:=by simp at ha;omega
     rw[f162.l0,lt_mid,in_mid,toNat_len,okAt_mid,fAt_mid,e1,e2,e3]
     simp only[br_t,gd_t,Bool.and_self,i_fol n a r (hy y (by simp)),i_gain (n+2),bd_s,push_ok (show acc.length<2147483648 by omega),push_fls,wrap_len (z:=z) (show p.length<4611686018427387904 by simp at hp;omega)]
     have:=ih ys (p++[z]) (s++[y]) (acc++[fmul .f32 z (gainM (levelM a r l y) t q)]) (levelM a r l y) m (by simpa using hl) (by simp[hs]) (fun x hx=>hy x (by simp[hx])) (by simp at ha ⊢;omega) (by simp at hp ⊢;omega) (by simp at hm;omega)
     simpa [scan,duckStep] using this
theorem i_duck (n:Nat) (a r l t q:Nat) (xs ys:List Nat) (hy:∀ x∈ys,W32 x) (hlen:ys.length=xs.length) (hl:xs.length≤256) (hn:xs.length<n) :
  f162 (n+4) a r l t q xs.length (fls .f32 xs) ys.length (fls .f32 ys)=some ((scan (duckStep a r t q) l (xs.zip ys)).1.length,fls .f32 (scan (duckStep a r t q) l (xs.zip ys)).1,a,r,(scan (duckStep a r t q) l (xs.zip ys)).2,t,q,true):=by
 rw[f162,i_few,decide_eq_true (show (xs.length:Int)≤256 by omega),show (((ys.length:Nat):Int) != ((xs.length:Nat):Int))=false by simp[hlen]]
 have e:=i_duck_loop n a r t q 0 0 0 0 0 xs.length (fls .f32 xs) xs ys [] [] [] l (n+3) hlen rfl hy (by simp;omega) (by simp;omega) (by omega)
 have e:f162.l0 (n+3) (n+3) xs.length (fls .f32 xs) ys.length (fls .f32 ys) a r l t q 0 0 0 0 0 0 [] xs.length (fls .f32 xs) (xs.length:Int) 0=_:=e
 simp only[bd_s,br_not,br_t,br_f,e];rfl
theorem i_runsqueeze (n:Nat) (a r l t q:Nat) (xs:List Nat) (hx:∀ x∈xs,W32 x) (hl:xs.length≤256) (hn:xs.length<n) :
  f134 (n+5) a r l t q xs.length (fls .f32 xs)=some ((scan (duckStep a r t q) l (xs.zip xs)).1.length,fls .f32 (scan (duckStep a r t q) l (xs.zip xs)).1,a,r,(scan (duckStep a r t q) l (xs.zip xs)).2,t,q,true):=by
 rw[f134]
 simp only[i_duck n a r l t q xs xs hx rfl hl hn,bd_s]
def clipM (lim x:Nat):Nat:=if fgt .f32 (size32 x) lim then (if flt .f32 x 0 then negF .f32 lim else lim) else x
def limT (lim p:Nat):Nat:=if fgt .f32 p lim then fdiv .f32 lim p else 1065353216
def limG (t gn:Nat):Nat:=if flt .f32 t gn then t else if fne .f32 gn gn then t else gn
def limStep (lim rise:Nat) (s:Nat × List Nat) (x:Nat):Nat × (Nat × List Nat) :=
 (clipM lim (fmul .f32 ((s.2++[x]).getD 0 0) (limG (limT lim (peakM 0 (s.2++[x]))) (fadd .f32 s.1 rise))),(limG (limT lim (peakM 0 (s.2++[x]))) (fadd .f32 s.1 rise),(s.2++[x]).drop 1))
theorem w32_clip {lim x:Nat} (hl:W32 lim) (hx:W32 x):W32 (clipM lim x):=by
 unfold clipM
 split
 ·split
  ·exact w32_negF hl
  ·exact hl
 ·exact hx
theorem w32_one:W32 1065353216:=⟨by decide,by decide⟩
theorem w32_limG {t gn:Nat} (ht:W32 t) (hg:W32 gn):W32 (limG t gn):=by
 unfold limG
 split
 ·exact ht
 ·split
  ·exact ht
  ·exact hg
theorem w32_limT {lim p:Nat}:W32 (limT lim p):=by
 unfold limT
 split
 ·exact w32_fdiv _ _
 ·exact w32_one
theorem lim_length (lim rise:Nat):∀ (xs:List Nat) (s:Nat × List Nat),(scan (limStep lim rise) s xs).2.2.length=s.2.length:=by
 intro xs
 induction xs with
 | nil=>intro s;rfl
 | cons x xs ih =>
   intro s
   simp only[scan]
   rw[ih]
   simp[limStep]
theorem i_clip (n:Nat) (lim:Nat) {x:Nat} (hx:W32 x):f163 (n+3) x lim=some (clipM lim x):=by
 rw[f163,i_absolute n hx]
 simp only[bd_s,br_not]
 unfold clipM
 cases fgt .f32 (size32 x) lim <;>cases flt .f32 x 0 <;>rfl
theorem i_lim_loop (n:Nat) (N:Nat) (cs:List T) (lim rise x8 x9 x10 n11:Nat) (l12:List T) (hl:W32 lim):∀ (zs p acc:List Nat) (s:Nat × List Nat) (m:Nat),(∀ x∈zs,W32 x)→(W32 s.1∧AllW s.2)→s.2.length≤64→acc.length+zs.length<1048576→p.length+zs.length<1048576→zs.length<m →
  f137.l0 (n+100) m N cs lim rise s.1 s.2.length (fls .f32 s.2) x8 x9 x10 n11 l12 acc.length (fls .f32 acc) (p++zs).length (fls .f32 (p++zs)) ((p++zs).length:Int) (p.length:Int) =
   some (lim,rise,(scan (limStep lim rise) s zs).2.1,(scan (limStep lim rise) s zs).2.2.length,fls .f32 (scan (limStep lim rise) s zs).2.2,x8,x9,x10,n11,l12,(acc++(scan (limStep lim rise) s zs).1).length,fls .f32 (acc++(scan (limStep lim rise) s zs).1)):=by
 intro zs
 induction zs with
 | nil =>
   intro p acc s m _ _ _ _ _ hm
   obtain ⟨m,rfl⟩:∃ k,m=k+1:=⟨m - 1,by omega⟩
   rw[f137.l0,lt_end]
   simp[br_f,scan]
 | cons z zs ih =>
   intro p acc s m hz hs hw ha hp hm
   obtain ⟨m,rfl⟩:∃ k,m=k+1:=⟨m - 1,by omega⟩
   have hp':p.length<1048576:=by simp at hp;omega
   have ha':acc.length<1048576:=by simp at ha;omega
   have hall:AllW (s.2++[z]):=fun y hy=>by
    simp only[List.mem_append,List.mem_singleton] at hy
    rcases hy with h | rfl
    ·exact hs.2 y h
    ·exact hz _ (by simp)
   have hpk:=i_peak (n+97) (s.2++[z]) hall (by simp;omega) (by simp;omega)
   have hlen:s.2.length+1=(s.2++[z]).length:=by simp
   have c1:decide ((0:Int)≤1∧(1:Int)≤((s.2++[z]).length:Int)∧((s.2++[z]).length:Int)≤((s.2++[z]).length:Int))=true:=decide_eq_true (by simp;omega)
   have c2:((fls .f32 (s.2++[z])).drop 1).take ((s.2++[z]).length - 1)=fls .f32 ((s.2++[z]).drop 1):=by
    rw[fls_drop,fls_take,List.take_of_length_le (by simp)]
   have c3:decide ((0:Int)≤0∧(0:Int)<((s.2++[z]).length:Int))=true:=decide_eq_true (by simp)
   have c4:okAt [.flt .f32] (fls .f32 (s.2++[z])) 0=true:=okAt_fls (by simp)
   have c5:(s.2++[z]).length - 1=((s.2++[z]).drop 1).length:=by simp
   rw[c5] at c2
   have c6:Nat.ble (s.2++[z]).length 2147483648=true:=le_ble (by simp;omega)
   have ih' :=ih (p++[z]) (acc++[(limStep lim rise s z).1]) (limStep lim rise s z).2 m (fun x hx=>hz x (by simp[hx]))
    ⟨w32_limG w32_limT (w32_fadd _ _),fun y hy=>hall y (List.mem_of_mem_drop hy)⟩ (by simp[limStep];omega) (by simp at ha ⊢;omega) (by simp at hp ⊢;omega) (by simp at hm;omega)
   rw[show p++[z]++zs=p++z::zs by simp] at ih'
   rw[f137.l0,lt_mid,in_mid,toNat_len,okAt_mid,fAt_mid]
   simp only[br_t,gd_t,Bool.and_self,i_copy (n+99) s.2 (by omega),bd_s,push_fls,hlen,hpk,c1,c2,c3,c4,fAt_fls,c6,i_clip (n+97) lim (w32_fmul _ _),push_ok (show acc.length<2147483648 by omega),wrap_len (z:=z) (show p.length<4611686018427387904 by omega),c5]
   have e1:scan (limStep lim rise) s (z::zs)=((limStep lim rise s z).1::(scan (limStep lim rise) (limStep lim rise s z).2 zs).1,(scan (limStep lim rise) (limStep lim rise s z).2 zs).2):=rfl
   rw[e1]
   have e2:∀ t gn,limT lim (peakM 0 (s.2++[z]))=t→fadd .f32 s.1 rise=gn→∀ g,limG t gn=g→limStep lim rise s z=(clipM lim (fmul .f32 ((s.2++[z]).getD 0 0) g),(g,(s.2++[z]).drop 1)):=by
    rintro t gn rfl rfl g rfl
    rfl
   have e3:acc++(limStep lim rise s z).1::(scan (limStep lim rise) (limStep lim rise s z).2 zs).1=(acc++[(limStep lim rise s z).1])++(scan (limStep lim rise) (limStep lim rise s z).2 zs).1:=by simp
   have e4:(acc++[(limStep lim rise s z).1]).length=acc.length+1:=by simp
   simp only[e3]
   rw[e4] at ih'
   cases hc:fgt .f32 (peakM 0 (s.2++[z])) lim
   ·have ht:limT lim (peakM 0 (s.2++[z]))=1065353216:=by unfold limT;simp[hc]
    cases h1:flt .f32 1065353216 (fadd .f32 s.1 rise)
    ·cases h2:fne .f32 (fadd .f32 s.1 rise) (fadd .f32 s.1 rise)
     ·have e:=e2 _ _ ht rfl (fadd .f32 s.1 rise) (by unfold limG;simp[h1,h2])
      rw[e] at ih' ⊢
      exact ih'
     ·have e:=e2 _ _ ht rfl 1065353216 (by unfold limG;simp[h1,h2])
      rw[e] at ih' ⊢
      exact ih'
    ·have e:=e2 _ _ ht rfl 1065353216 (by unfold limG;simp[h1])
     rw[e] at ih' ⊢
     exact ih'
   ·have ht:limT lim (peakM 0 (s.2++[z]))=fdiv .f32 lim (peakM 0 (s.2++[z])):=by unfold limT;simp[hc]
    cases h1:flt .f32 (fdiv .f32 lim (peakM 0 (s.2++[z]))) (fadd .f32 s.1 rise)
    ·cases h2:fne .f32 (fadd .f32 s.1 rise) (fadd .f32 s.1 rise)
     ·have e:=e2 _ _ ht rfl (fadd .f32 s.1 rise) (by unfold limG;simp[h1,h2])
      rw[e] at ih' ⊢
      exact ih'
     ·have e:=e2 _ _ ht rfl (fdiv .f32 lim (peakM 0 (s.2++[z]))) (by unfold limG;simp[h1,h2])
      rw[e] at ih' ⊢
      exact ih'
    ·have e:=e2 _ _ ht rfl (fdiv .f32 lim (peakM 0 (s.2++[z]))) (by unfold limG;simp[h1])
     rw[e] at ih' ⊢
     exact ih'
theorem i_islimit (n:Nat) (lim:Nat):f145 (n+2) lim=some (fin32 lim&&fgt .f32 lim 0):=by
 rw[f145,i_finite]
 cases fin32 lim <;>rfl
theorem i_runlimiter (n:Nat) (lim rise g:Nat) (w xs:List Nat) (hl:W32 lim) (hlim:(fin32 lim&&fgt .f32 lim 0)=true) (hg:W32 g) (hw:AllW w) (hwl:w.length≤64) (hx:∀ x∈xs,W32 x) (hxl:xs.length≤256) (hn:300<n) :
  f137 (n+101) lim rise g w.length (fls .f32 w) xs.length (fls .f32 xs) =
   some ((scan (limStep lim rise) (g,w) xs).1.length,fls .f32 (scan (limStep lim rise) (g,w) xs).1,lim,rise,(scan (limStep lim rise) (g,w) xs).2.1,(scan (limStep lim rise) (g,w) xs).2.2.length,fls .f32 (scan (limStep lim rise) (g,w) xs).2.2,true):=by
 have e:=i_lim_loop n xs.length (fls .f32 xs) lim rise 0 0 0 0 [] hl xs [] [] (g,w) (n+100) hx ⟨hg,hw⟩ hwl (by simp;omega) (by simp;omega) (by omega)
 have e:f137.l0 (n+100) (n+100) xs.length (fls .f32 xs) lim rise g w.length (fls .f32 w) 0 0 0 0 [] 0 [] xs.length (fls .f32 xs) (xs.length:Int) 0=_:=e
 have hlen:=lim_length lim rise xs (g,w)
 rw[f137,i_islimit,hlim,i_few,i_copy (n+99) w (by omega),decide_eq_false (show ¬ (w.length:Int)>64 by omega),decide_eq_true (show (xs.length:Int)≤256 by omega)]
 simp only[bd_s,br_not,br_t,br_f,e,i_copy (n+99) (scan (limStep lim rise) (g,w) xs).2.2 (by simp at hlen;omega),List.nil_append]
theorem i_clips_loop (n:Nat) (N:Nat) (cs:List T) (lim:Nat):∀ (zs p acc:List Nat) (m:Nat),(∀ x∈zs,W32 x)→acc.length+zs.length<1048576→p.length+zs.length<1048576→zs.length<m →
  f135.l0 (n+3) m N cs lim acc.length (fls .f32 acc) (p++zs).length (fls .f32 (p++zs)) ((p++zs).length:Int) (p.length:Int)=some ((acc++zs.map (clipM lim)).length,fls .f32 (acc++zs.map (clipM lim))):=by
 intro zs
 induction zs with
 | nil =>
   intro p acc m _ _ _ hm
   obtain ⟨m,rfl⟩:∃ k,m=k+1:=⟨m - 1,by omega⟩
   rw[f135.l0,lt_end];simp[br_f]
 | cons z zs ih =>
   intro p acc m hz ha hp hm
   obtain ⟨m,rfl⟩:∃ k,m=k+1:=⟨m - 1,by omega⟩
   have ha':acc.length<1048576:=by simp at ha;omega
   rw[f135.l0,lt_mid,in_mid,toNat_len,okAt_mid,fAt_mid]
   simp only[br_t,gd_t,Bool.and_self,i_clip n lim (hz z (by simp)),bd_s,push_ok (show acc.length<2147483648 by omega),push_fls,wrap_len (z:=z) (show p.length<4611686018427387904 by simp at hp;omega)]
   have:=ih (p++[z]) (acc++[clipM lim z]) m (fun x hx=>hz x (by simp[hx])) (by simp at ha ⊢;omega) (by simp at hp ⊢;omega) (by simp at hm;omega)
   simpa using this
theorem i_clips (n:Nat) (lim:Nat) (xs:List Nat) (hx:∀ x∈xs,W32 x) (hl:xs.length≤256) (hn:xs.length<n):f135 (n+4) xs.length (fls .f32 xs) lim=some (xs.length,fls .f32 (xs.map (clipM lim)),true):=by
 have e:=i_clips_loop n xs.length (fls .f32 xs) lim xs [] [] (n+3) hx (by simp;omega) (by simp;omega) (by omega)
 have e:f135.l0 (n+3) (n+3) xs.length (fls .f32 xs) lim 0 [] xs.length (fls .f32 xs) (xs.length:Int) 0=_:=e
 rw[f135,i_few,decide_eq_true (show (xs.length:Int)≤256 by omega)]
 simp only[bd_s,br_not,br_t,e,List.nil_append,List.length_map]
structure Eff where
 kind:Int
 len:Int
 nums:List Nat
def effC (e:Eff):List T:=[.int .i64 e.kind,.int .i64 e.len,.lst e.nums.length (fls .f32 e.nums)]
def effs (es:List Eff):List T:=es.flatMap effC
def eAt (es:List Eff) (i:Nat):Eff:=es.getD i ⟨5,0,[]⟩
theorem eff_get {c:Nat} (hc:c<3):∀ (ts:List Eff) (i:Nat),i<ts.length→(effs ts)[i * 3+c]?=(effC (eAt ts i))[c]?
 | [],i,h=>by simp at h
 | t::ts,0,_=>by
   show (effC t++effs ts)[0 * 3+c]?=_
   rw[List.getElem?_append_left (by simp[effC];omega),Nat.zero_mul,Nat.zero_add];rfl
 | t::ts,i+1,h=>by
   show (effC t++effs ts)[(i+1) * 3+c]?=_
   rw[List.getElem?_append_right (by simp[effC];omega),show (i+1) * 3+c - (effC t).length=i * 3+c by simp[effC];omega,eff_get hc ts i (by simpa using h)]
   rfl
section
variable {ts:List Eff} {i:Nat} (h:i<ts.length)
include h
theorem okE:okAt [.int .i64,.int .i64,.lst] (effs ts) (i * 3+0)=true:=by
 have h0:=eff_get (c:=0) (by decide) ts i h
 have h1:=eff_get (c:=1) (by decide) ts i h
 have h2:=eff_get (c:=2) (by decide) ts i h
 simp only[effC,List.getElem?_cons_zero,List.getElem?_cons_succ] at h0 h1 h2
 rw[Nat.add_zero] at h0
 simp[okAt,Nat.add_assoc,h0,h1,h2,isCK]
theorem kE:iAt (effs ts) (i * 3+0)=(eAt ts i).kind:=by unfold iAt;rw[eff_get (c:=0) (by decide) ts i h];rfl
theorem gE:iAt (effs ts) (i * 3+0+1)=(eAt ts i).len:=by unfold iAt;rw[show i * 3+0+1=i * 3+1 from rfl,eff_get (c:=1) (by decide) ts i h];rfl
theorem nE:nAt (effs ts) (i * 3+0+1+1)=(eAt ts i).nums.length:=by unfold nAt;rw[show i * 3+0+1+1=i * 3+2 from rfl,eff_get (c:=2) (by decide) ts i h];rfl
theorem lE:lAt (effs ts) (i * 3+0+1+1)=fls .f32 (eAt ts i).nums:=by unfold lAt;rw[show i * 3+0+1+1=i * 3+2 from rfl,eff_get (c:=2) (by decide) ts i h];rfl
theorem eff_drop:ts.drop i=eAt ts i::ts.drop (i+1):=by
 rw[List.drop_eq_getElem_cons h]
 simp[eAt,List.getD,h]
theorem eAt_mem:eAt ts i∈ts:=by
 have:eAt ts i=ts[i]:=by simp[eAt,List.getD,h]
 rw[this];exact List.getElem_mem h
end
theorem push_eff (acc:List Eff) (e:Eff):effs acc++setN (reps 1 [(T.int .i64 (0:Int)),(T.int .i64 (0:Int)),(T.lst 0 [])]) 0 (effC e)=effs (acc++[e]):=by
 unfold effs
 rw[List.flatMap_append,List.flatMap_singleton];rfl
inductive Ef
 | scale (g:Nat)
 | filt (f1 f2 f3 f4 f5:Nat)
 | echo (L:Nat) (p q:Nat)
 | squeeze (p q r s:Nat)
 | clip (g:Nat)
 | bend
 | lim (A:Nat) (l:Nat) (r:Nat)
def Ef.eff:Ef→Eff
 | .scale g=>⟨0,0,[g]⟩
 | .filt a b c d e=>⟨1,0,[a,b,c,d,e]⟩
 | .echo L p q=>⟨2,(L:Int),[p,q]⟩
 | .squeeze p q r s=>⟨3,0,[p,q,r,s]⟩
 | .clip g=>⟨4,0,[g]⟩
 | .bend=>⟨5,0,[]⟩
 | .lim A l r=>⟨6,(A:Int),[l,r]⟩
def Ef.Ok:Ef→Prop
 | .echo L _ _=>1≤L∧L≤32
 | .lim A l _=>A≤32∧W32 l∧(fin32 l&&fgt .f32 l 0)=true
 | .clip g=>W32 g
 | _=>True
def effL (es:List Ef):List Eff:=es.map (·.eff)
def row (ls:List (List Nat)) (i:Nat):List Nat:=ls.getD i []
section
variable {ls:List (List Nat)} {i:Nat} (h:i<ls.length)
include h
theorem row_get:(ls.map rwF)[i]?=some (rwF (row ls i)):=by simp[row,List.getD,h]
theorem okR:okAt [.lst] (ls.map rwF) i=true:=by simp[okAt,row_get h,isCK,rwF]
theorem nR:nAt (ls.map rwF) i=(row ls i).length:=by unfold nAt;rw[row_get h];rfl
theorem lR:lAt (ls.map rwF) i=fls .f32 (row ls i):=by unfold lAt;rw[row_get h];rfl
theorem row_drop:ls.drop i=row ls i::ls.drop (i+1):=by
 rw[List.drop_eq_getElem_cons h]
 simp[row,List.getD,h]
end
theorem push_rw (P:List (List Nat)) (r:List Nat):P.map rwF++setN (reps 1 [(T.lst 0 [])]) 0 [T.lst r.length (fls .f32 r)]=(P++[r]).map rwF:=by
 rw[List.map_append];rfl
theorem row_set {ls:List (List Nat)} {i j:Nat} {r:List Nat} (hj:j<ls.length):row (ls.set i r) j=if i=j then r else row ls j:=by
 unfold row
 by_cases h:i=j
 ·subst h;simp[List.getD,hj]
 ·simp[List.getD,h,List.getElem?_set_ne]
def Ef.keep:Ef→Nat
 | .scale _=>0
 | .filt .. =>2
 | .echo L _ _=>L
 | .squeeze .. =>1
 | .clip _=>0
 | .bend=>0
 | .lim A _ _=>A+1
def efAt (es:List Ef) (i:Nat):Ef:=es.getD i .bend
theorem effL_at {es:List Ef} {i:Nat} (h:i<es.length):eAt (effL es) i=(efAt es i).eff:=by simp[eAt,effL,efAt,List.getD,h]
theorem ef_drop {es:List Ef} {i:Nat} (h:i<es.length):es.drop i=efAt es i::es.drop (i+1):=by
 rw[List.drop_eq_getElem_cons h]
 simp[efAt,List.getD,h]
theorem efAt_mem {es:List Ef} {i:Nat} (h:i<es.length):efAt es i∈es:=by
 have:efAt es i=es[i]:=by simp[efAt,List.getD,h]
 rw[this];exact List.getElem_mem h
theorem effL_length (es:List Ef):(effL es).length=es.length:=by simp[effL]
theorem s_counts (n:Nat) {e:Ef} (h:e.Ok):∃ c:Int,f105 (n+1) e.eff.kind e.eff.len=some (c,((e.keep:Nat):Int)):=by
 rw[f105]
 cases e with
 | scale g=>exact ⟨_,rfl⟩
 | filt _ _ _ _ _=>exact ⟨_,rfl⟩
 | echo L p q=>exact ⟨_,rfl⟩
 | squeeze _ _ _ _=>exact ⟨_,rfl⟩
 | clip g=>exact ⟨_,rfl⟩
 | bend=>exact ⟨_,rfl⟩
 | lim A k r =>
   have hA:A≤32:=h.1
   have w:IntKind.i64.wrap ((1:Int)+(A:Int))=((A+1:Nat):Int):=by rw[wrap64] <;>omega
   refine ⟨2,?_⟩
   have e:(Ef.lim A k r).eff.len=(A:Int):=rfl
   rw[e,w]
   rfl
theorem setN_fls {k:FloatKind} {L:List Nat} {i v:Nat}:setN (fls k L) i [T.flt k v]=fls k (L.set i v):=by
 rw[setN_one];simp[fls,List.map_set]
def newRow:Ef→List Nat
 | .lim A k r=>(List.replicate (Ef.lim A k r).keep 0).set 0 1065353216
 | e=>List.replicate e.keep 0
theorem new_facts (e:Ef):((e.eff.kind==6)=false∧newRow e=List.replicate e.keep 0)∨((e.eff.kind==6)=true∧newRow e=(List.replicate e.keep 0).set 0 1065353216∧1≤e.keep):=by
 cases e with
 | lim A k r=>exact .inr ⟨rfl,rfl,by show 1≤A+1;omega⟩
 | scale g=>exact .inl ⟨rfl,rfl⟩
 | filt _ _ _ _ _=>exact .inl ⟨rfl,rfl⟩
 | echo L p q=>exact .inl ⟨rfl,rfl⟩
 | squeeze _ _ _ _=>exact .inl ⟨rfl,rfl⟩
 | clip g=>exact .inl ⟨rfl,rfl⟩
 | bend=>exact .inl ⟨rfl,rfl⟩
theorem newRow_length (e:Ef):(newRow e).length=e.keep:=by
 rcases new_facts e with ⟨-,h⟩ | ⟨-,h,-⟩ <;>rw[h] <;>simp
theorem keep_le {e:Ef} (h:e.Ok):e.keep≤33:=by
 cases e with
 | lim A k r=>have hA:A≤32:=h.1;show A+1≤33;omega
 | echo L p q=>have h2:L≤32:=h.2;show L≤33;omega
 | scale g=>show 0≤33;omega
 | filt _ _ _ _ _=>show 2≤33;omega
 | squeeze _ _ _ _=>show 1≤33;omega
 | clip g=>show 0≤33;omega
 | bend=>show 0≤33;omega
theorem s_new_loop (n:Nat) (es:List Ef) (hl:es.length≤100) (hok:∀ e∈es,e.Ok):∀ (j i m:Nat) (P:List (List Nat)),i+j=es.length→P.length≤i→j<m →
  f67.l0 (n+1) m es.length (effs (effL es)) P.length (P.map rwF) (i:Int)=some ((P++(es.drop i).map newRow).length,(P++(es.drop i).map newRow).map rwF):=by
 intro j
 induction j with
 | zero =>
   intro i m P hi hP hm
   obtain ⟨m,rfl⟩:∃ k,m=k+1:=⟨m - 1,by omega⟩
   rw[f67.l0,nlt_dec (by omega),List.drop_eq_nil_of_le (by omega)]
   simp[br]
 | succ j ih =>
   intro i m P hi hP hm
   obtain ⟨m,rfl⟩:∃ k,m=k+1:=⟨m - 1,by omega⟩
   have h:i<es.length:=by omega
   have he:i<(effL es).length:=by rw[effL_length];exact h
   have hE:=hok _ (efAt_mem h)
   have hd:=ef_drop h
   have hk5:=keep_le hE
   rw[f67.l0,lt_dec h,in_dec h,Int.toNat_natCast,okE he,kE he,gE he,effL_at h,hd]
   generalize efAt es i=e at hE hk5
   obtain ⟨c,hc⟩:=s_counts n hE
   have step:=ih (i+1) m (P++[newRow e]) (by omega) (by simp;omega) (by omega)
   have hg:decide ((0:Int)≤((e.keep:Nat):Int)∧((e.keep:Nat):Int)≤(2147483648:Int))=true:=decide_eq_true (by omega)
   have hpush:=push_rw P (newRow e)
   rw[newRow_length] at hpush
   rcases new_facts e with ⟨h6,hr⟩ | ⟨h6,hr,hk⟩
   ·rw[hr] at hpush
    simp only[br_t,br_f,Bool.and_self,gd_t,hc,bd_s,hg,Int.toNat_natCast,reps_fls,h6,push_ok (show P.length<2147483648 by omega),wrap_succ (show i<9223372036854775807 by omega)]
    rw[hpush,← hr,push_len (z:=newRow e),step]
    simp
   ·have hg2:decide ((0:Int)≤0∧(0:Int)<((e.keep:Nat):Int))=true:=decide_eq_true (by omega)
    have hb:Nat.ble 1 (fls .f32 (List.replicate e.keep 0)).length=true:=by rw[Nat.ble_eq];simp[fls];omega
    rw[hr] at hpush
    simp only[br_t,br_f,Bool.and_self,gd_t,hc,bd_s,hg,Int.toNat_natCast,reps_fls,h6,hg2,hb,setN_fls,push_ok (show P.length<2147483648 by omega),wrap_succ (show i<9223372036854775807 by omega)]
    rw[hpush,← hr,push_len (z:=newRow e),step]
    simp
def Sok (es:List Ef) (ls:List (List Nat)):Prop:=ls.length=es.length∧∀ i,i<ls.length→(row ls i).length=(efAt es i).keep∧(∀ y∈row ls i,W32 y)
theorem Sok.set {es:List Ef} {ls:List (List Nat)} (h:Sok es ls) {i:Nat} {r:List Nat} (hi:i<ls.length) (hr:r.length=(efAt es i).keep) (hw:∀ y∈r,W32 y):Sok es (ls.set i r):=by
 refine ⟨by rw[List.length_set];exact h.1,fun j hj => ?_⟩
 rw[List.length_set] at hj
 rw[row_set hj]
 by_cases e:i=j
 ·subst e;rw[if_pos rfl];exact ⟨hr,hw⟩
 ·rw[if_neg e];exact h.2 j hj
theorem new_ok (es:List Ef):Sok es (es.map newRow):=by
 refine ⟨by simp,fun i hi => ?_⟩
 have h:i<es.length:=by simpa using hi
 have e:row (es.map newRow) i=newRow (efAt es i):=by simp[row,efAt,List.getD,h]
 rw[e]
 refine ⟨newRow_length _,fun y hy => ?_⟩
 rcases new_facts (efAt es i) with ⟨-,hr⟩ | ⟨-,hr,-⟩
 ·rw[hr] at hy
  obtain ⟨-,rfl⟩:=List.mem_replicate.1 hy
  exact w32_zero
 ·rw[hr] at hy
  rcases List.mem_or_eq_of_mem_set hy with h' | rfl
  ·obtain ⟨-,rfl⟩:=List.mem_replicate.1 h'
   exact w32_zero
  ·exact w32_one
def bendM (x:Nat):Nat:=if fge .f32 x 1065353216=true then 1065353216 else if fle .f32 x 3212836864=true then 3212836864 else fmul .f32 x (fsub .f32 1069547520 (fmul .f32 1056964608 (fmul .f32 x x)))
theorem i_bend (n x:Nat):f136 (n+1) x=some (bendM x):=by
 rw[f136]
 unfold bendM
 cases fge .f32 x 1065353216
 ·cases fle .f32 x 3212836864 <;>rfl
 ·rfl
theorem i_bends_loop (n:Nat) (N:Nat) (cs:List T):∀ (zs p acc:List Nat) (m:Nat),acc.length+zs.length<1048576→p.length+zs.length<1048576→zs.length<m →
  f108.l1 (n+1) m N cs acc.length (fls .f32 acc) (p++zs).length (fls .f32 (p++zs)) ((p++zs).length:Int) (p.length:Int)=some ((acc++zs.map bendM).length,fls .f32 (acc++zs.map bendM)):=by
 intro zs
 induction zs with
 | nil =>
   intro p acc m _ _ hm
   obtain ⟨m,rfl⟩:∃ k,m=k+1:=⟨m - 1,by simp at hm;omega⟩
   rw[f108.l1,lt_end];simp[br]
 | cons z zs ih =>
   intro p acc m ha hp hm
   obtain ⟨m,rfl⟩:∃ k,m=k+1:=⟨m - 1,by simp at hm;omega⟩
   have:=ih (p++[z]) (acc++[bendM z]) m (by simp at ha ⊢;omega) (by simp at hp ⊢;omega) (by simp at hm;omega)
   rw[f108.l1,lt_mid,in_mid,toNat_len,okAt_mid,fAt_mid,wrap_len (z:=z) (show p.length<4611686018427387904 by simp at hp;omega)]
   simp only[br_t,gd_t,Bool.and_self,i_bend,bd_s,push_ok (show acc.length<2147483648 by simp at ha;omega),push_fls]
   simpa using this
def echoStep (p q:Nat) (w:List Nat) (x:Nat):Nat × List Nat:=(fadd .f32 x (fmul .f32 q (headM w)),tookM w (flushM (fadd .f32 x (fmul .f32 p (headM w)))))
theorem i_echo_loop (n:Nat) (N:Nat) (cs:List T) (pp qq:Nat):∀ (zs p acc w:List Nat) (m:Nat),0<w.length→w.length≤64→acc.length+zs.length<1048576→p.length+zs.length<1048576→zs.length<m →
  f108.l0 (n+3) m N cs 2 (fls .f32 [pp,qq]) w.length (fls .f32 w) acc.length (fls .f32 acc) (p++zs).length (fls .f32 (p++zs)) ((p++zs).length:Int) (p.length:Int) =
   some ((scan (echoStep pp qq) w zs).2.length,fls .f32 (scan (echoStep pp qq) w zs).2,(acc++(scan (echoStep pp qq) w zs).1).length,fls .f32 (acc++(scan (echoStep pp qq) w zs).1)):=by
 intro zs
 induction zs with
 | nil =>
   intro p acc w m _ _ _ _ hm
   obtain ⟨m,rfl⟩:∃ k,m=k+1:=⟨m - 1,by simp at hm;omega⟩
   rw[f108.l0,lt_end];simp[br,scan]
 | cons z zs ih =>
   intro p acc w m h0 h1 ha hp hm
   obtain ⟨m,rfl⟩:∃ k,m=k+1:=⟨m - 1,by simp at hm;omega⟩
   have hlen:(echoStep pp qq w z).2.length=w.length:=took_length h0
   have step:=ih (p++[z]) (acc++[(echoStep pp qq w z).1]) (echoStep pp qq w z).2 m (by omega) (by omega) (by simp at ha ⊢;omega) (by simp at hp ⊢;omega) (by simp at hm;omega)
   have g1:decide ((0:Int)≤0∧(0:Int)<(w.length:Int))=true:=decide_eq_true (by omega)
   have g2:okAt [.flt .f32] (fls .f32 w) 0=true:=okAt_fls h0
   have g3:fAt (fls .f32 w) 0=headM w:=fAt_fls ..
   have g4:decide ((0:Int)≤1∧(1:Int)<((2:Nat):Int))=true:=rfl
   have g5:decide ((0:Int)≤0∧(0:Int)<((2:Nat):Int))=true:=rfl
   have g6:okAt [.flt .f32] (fls .f32 [pp,qq]) 0=true:=rfl
   have g7:okAt [.flt .f32] (fls .f32 [pp,qq]) 1=true:=rfl
   have g8:fAt (fls .f32 [pp,qq]) 0=pp:=rfl
   have g9:fAt (fls .f32 [pp,qq]) 1=qq:=rfl
   have tk:∀ y,f132 (n+3) w.length (fls .f32 w) y=some ((tookM w y).length,fls .f32 (tookM w y)):=fun y=>by
    obtain ⟨v,vs,rfl⟩:∃ v vs,w=v::vs:=by cases w with
     | nil=>simp at h0
     | cons v vs=>exact ⟨v,vs,rfl⟩
    exact i_taken (n+1) v vs y (by simp at h1;omega)
   rw[f108.l0,lt_mid,in_mid,toNat_len,okAt_mid,fAt_mid]
   have w' :=wrap_len (z:=z) (p:=p) (show p.length<4611686018427387904 by simp at hp;omega)
   simp only[br_t,gd_t,Bool.and_self,g1,g2,g3,g4,g5,g6,g7,g8,g9,push_ok (show acc.length<2147483648 by simp at ha;omega),push_fls,i_flush (n+1) (w32_fadd _ _),bd_s,tk,w']
   rw[push_len (z:=(echoStep pp qq w z).1)]
   rw[List.append_assoc,List.append_assoc] at step
   exact step
section
variable {σ τ α β:Type}
theorem scan_sim (f:σ→α→β × σ) (g:τ→α→β × τ) (h:τ→σ) (P:τ→Prop) (hs:∀ t x,P t→f (h t) x=((g t x).1,h (g t x).2)∧P (g t x).2):∀ (xs:List α) (t:τ),P t→scan f (h t) xs=((scan g t xs).1,h (scan g t xs).2)∧P (scan g t xs).2
 | [],t,ht=>⟨rfl,ht⟩
 | x::xs,t,ht=>by
   obtain ⟨e,hp⟩:=hs t x ht
   obtain ⟨e2,hp2⟩:=scan_sim f g h P hs xs _ hp
   refine ⟨?_,hp2⟩
   simp only[scan,e,e2]
theorem scan_pure (f:α→β):∀ (xs:List α),scan (fun (_:List τ) x=>(f x,([]:List τ))) [] xs=(xs.map f,[])
 | []=>rfl
 | x::xs=>by simp only[scan,scan_pure f xs,List.map_cons]
theorem scan_twin (f:σ→α × α→β × σ):∀ (xs:List α) (s:σ),scan f s (xs.zip xs)=scan (fun s x=>f s (x,x)) s xs
 | [],s=>rfl
 | x::xs,s=>by simp only[List.zip_cons_cons,scan,scan_twin f xs]
end
def Ef.step:Ef→List Nat→Nat→Nat × List Nat
 | .scale g,_,x=>(fmul .f32 x g,[])
 | .filt a b c d e,w,x=>((fstep (a,b,c,d,e) 1 true (w.getD 0 0,w.getD 1 0,0,0) x).1,[(fstep (a,b,c,d,e) 1 true (w.getD 0 0,w.getD 1 0,0,0) x).2.1,(fstep (a,b,c,d,e) 1 true (w.getD 0 0,w.getD 1 0,0,0) x).2.2.1])
 | .echo L p q,w,x=>echoStep p q w x
 | .squeeze a r t q,w,x=>((duckStep a r t q (w.getD 0 0) (x,x)).1,[(duckStep a r t q (w.getD 0 0) (x,x)).2])
 | .clip g,_,x=>(clipM g x,[])
 | .bend,_,x=>(bendM x,[])
 | .lim A k r,w,x=>((limStep k r (w.getD 0 0,w.drop 1) x).1,(limStep k r (w.getD 0 0,w.drop 1) x).2.1::(limStep k r (w.getD 0 0,w.drop 1) x).2.2)
def Fit (e:Ef) (w:List Nat):Prop:=w.length=e.keep∧AllW w
theorem w32_bend {x:Nat}:W32 (bendM x):=by
 unfold bendM
 split
 ·exact ⟨by decide,by decide⟩
 ·split
  ·exact ⟨by decide,by decide⟩
  ·exact w32_fmul _ _
theorem w32_at {w:List Nat} (h:AllW w) (i:Nat):W32 (w.getD i 0):=by
 unfold List.getD
 cases hi:w[i]? with
 | none=>exact w32_zero
 | some v=>exact h v (List.mem_of_getElem? hi)
theorem step_fit {e:Ef} (he:e.Ok) {w:List Nat} (h:Fit e w) {x:Nat} (hx:W32 x):W32 (e.step w x).1∧Fit e (e.step w x).2:=by
 obtain ⟨hl,hw⟩:=h
 cases e with
 | scale g=>exact ⟨w32_fmul _ _,rfl,fun y hy=>by cases hy⟩
 | filt a b c d e =>
   obtain ⟨q1,q2,q3,q4,q5⟩:=fstep_w32 (f:=(a,b,c,d,e)) (form:=1) (b:=true) (m:=(w.getD 0 0,w.getD 1 0,0,0)) (x:=x) ⟨w32_at hw 0,w32_at hw 1,w32_zero,w32_zero⟩ hx
   refine ⟨q1,rfl,fun y hy => ?_⟩
   simp only[Ef.step,List.mem_cons,List.not_mem_nil,or_false] at hy
   rcases hy with rfl | rfl
   ·exact q2
   ·exact q3
 | echo L p q =>
   have h1:1≤L∧L≤32:=he
   have hl:w.length=L:=hl
   exact ⟨w32_fadd _ _,(took_length (by omega)).trans hl,allW_took hw (w32_flush (w32_fadd _ _))⟩
 | squeeze a r t q =>
   refine ⟨w32_fmul _ _,rfl,fun y hy => ?_⟩
   simp only[Ef.step,List.mem_cons,List.not_mem_nil,or_false] at hy
   subst hy;exact w32_level ..
 | clip g=>exact ⟨w32_clip he hx,rfl,fun y hy=>by cases hy⟩
 | bend=>exact ⟨w32_bend,rfl,fun y hy=>by cases hy⟩
 | lim A k r =>
   have hl:w.length=A+1:=hl
   refine ⟨w32_clip he.2.1 (w32_fmul _ _),?_,fun y hy => ?_⟩
   ·show (limStep k r (w.getD 0 0,w.drop 1) x).2.2.length+1=A+1
    simp[limStep];omega
   ·simp only[Ef.step,List.mem_cons] at hy
    rcases hy with rfl | hy
    ·exact w32_limG w32_limT (w32_fadd _ _)
    ·have:=List.mem_of_mem_drop hy
     simp only[List.mem_append,List.mem_singleton] at this
     rcases this with h | rfl
     ·exact hw y (List.mem_of_mem_drop h)
     ·exact hx
theorem run_fit {e:Ef} (he:e.Ok) (xs:List Nat) {w:List Nat} (h:Fit e w) (hx:AllW xs):AllW (scan e.step w xs).1∧Fit e (scan e.step w xs).2 :=
 scan_inv (f:=e.step) (P:=Fit e) (Q:=W32) (S:=W32) (fun _ _ hs hq=>step_fit he hs hq) xs w h hx
theorem sim_filt (a b c d e:Nat) (xs w:List Nat) (hl:w.length=2):∃ u v,(scan (Ef.filt a b c d e).step w xs).2=[u,v]∧scan (fstep (a,b,c,d,e) 1 true) (w.getD 0 0,w.getD 1 0,0,0) xs=((scan (Ef.filt a b c d e).step w xs).1,(u,v,0,0)):=by
 obtain ⟨h1,h2⟩:=scan_sim (fstep (a,b,c,d,e) 1 true) (Ef.filt a b c d e).step (fun w=>(w.getD 0 0,w.getD 1 0,0,0)) (fun w=>w.length=2) (fun t x ht=>⟨by
  have z:fl? true 0=0:=by decide
  simp only[fstep,Ef.step,List.getD_cons_zero,List.getD_cons_succ,z,if_neg (show ¬ (1:Int)=0 by decide),if_pos],rfl⟩) xs w hl
 generalize (scan (Ef.filt a b c d e).step w xs)=r at h1 h2
 obtain ⟨ys,r⟩:=r
 match r,h2 with
 | [u,v],_=>exact ⟨u,v,rfl,h1⟩
theorem sim_squeeze (a r t q:Nat) (xs w:List Nat) (hl:w.length=1):∃ u,(scan (Ef.squeeze a r t q).step w xs).2=[u]∧scan (duckStep a r t q) (w.getD 0 0) (xs.zip xs)=((scan (Ef.squeeze a r t q).step w xs).1,u):=by
 rw[scan_twin]
 obtain ⟨h1,h2⟩:=scan_sim (fun s x=>duckStep a r t q s (x,x)) (Ef.squeeze a r t q).step (fun w=>w.getD 0 0) (fun w=>w.length=1) (fun t x ht=>⟨rfl,rfl⟩) xs w hl
 generalize (scan (Ef.squeeze a r t q).step w xs)=s at h1 h2
 obtain ⟨ys,s⟩:=s
 match s,h2 with
 | [u],_=>exact ⟨u,rfl,h1⟩
theorem sim_lim (A k r:Nat) (xs w:List Nat) (hl:w.length=A+1):∃ g v,(scan (Ef.lim A k r).step w xs).2=g::v∧scan (limStep k r) (w.getD 0 0,w.drop 1) xs=((scan (Ef.lim A k r).step w xs).1,(g,v)):=by
 obtain ⟨h1,h2⟩:=scan_sim (limStep k r) (Ef.lim A k r).step (fun w=>(w.getD 0 0,w.drop 1)) (fun w=>0<w.length) (fun t x ht=>⟨rfl,by simp[Ef.step]⟩) xs w (by omega)
 generalize (scan (Ef.lim A k r).step w xs)=s at h1 h2
 obtain ⟨ys,s⟩:=s
 match s,h2 with
 | g::v,_=>exact ⟨g,v,rfl,h1⟩
def chainGo:List Ef→List (List Nat)→List Nat→List Nat × List (List Nat)
 | e::es,w::ls,xs=>((chainGo es ls (scan e.step w xs).1).1,(scan e.step w xs).2::(chainGo es ls (scan e.step w xs).1).2)
 | _,_,xs=>(xs,[])
def Fits:List Ef→List (List Nat)→Prop
 | e::es,w::ls=>Fit e w∧Fits es ls
 | [],[]=>True
 | _,_=>False
theorem Fits.len:∀ {es:List Ef} {ls:List (List Nat)},Fits es ls→ls.length=es.length
 | [],[],_=>rfl
 | _::_,_::_,h=>by simp[h.2.len]
 | [],_::_,h=>h.elim
 | _::_,[],h=>h.elim
theorem Fits.at:∀ {es:List Ef} {ls:List (List Nat)},Fits es ls→∀ i,i<es.length→Fit (efAt es i) (row ls i)
 | [],[],_,i,hi=>by simp at hi
 | _::_,_::_,h,0,_=>h.1
 | _::_,_::_,h,i+1,hi=>h.2.at i (by simpa using hi)
 | [],_::_,h,_,_=>h.elim
 | _::_,[],h,_,_=>h.elim
theorem Sok.fits:∀ {es:List Ef} {ls:List (List Nat)},Sok es ls→Fits es ls
 | [],[],_=>trivial
 | e::es,w::ls,h=>⟨h.2 0 (by simp),Sok.fits ⟨by have:=h.1;simpa using this,fun i hi=>h.2 (i+1) (by simpa using hi)⟩⟩
 | [],_::_,h=>by have:=h.1;simp at this
 | _::_,[],h=>by have:=h.1;simp at this
theorem chain_fit:∀ (es:List Ef) (ls:List (List Nat)) (xs:List Nat),(∀ e∈es,e.Ok)→Fits es ls→AllW xs→AllW (chainGo es ls xs).1∧Fits es (chainGo es ls xs).2∧(chainGo es ls xs).1.length=xs.length
 | [],[],xs,_,_,hx=>⟨hx,trivial,rfl⟩
 | e::es,w::ls,xs,ho,h,hx=>by
   obtain ⟨a,b⟩:=run_fit (ho e (by simp)) xs h.1 hx
   obtain ⟨c,d,f⟩:=chain_fit es ls _ (fun e he=>ho e (by simp[he])) h.2 a
   exact ⟨c,⟨b,d⟩,f.trans (scan_length _ _ _)⟩
 | [],_::_,_,_,h,_=>h.elim
 | _::_,[],_,_,h,_=>h.elim
theorem drop_one {w:List Nat}:((fls .f32 w).drop 1).take (w.length - 1)=fls .f32 (w.drop 1):=by
 rw[fls_drop,fls_take,List.take_of_length_le (by simp)]
theorem i_effectrun (n:Nat) {e:Ef} (he:e.Ok) {w xs:List Nat} (hf:Fit e w) (hx:AllW xs) (hl:xs.length≤256) (hn:600<n) :
  f108 (n+102) e.eff.kind e.eff.len e.eff.nums.length (fls .f32 e.eff.nums) w.length (fls .f32 w) xs.length (fls .f32 xs) =
   some ((scan e.step w xs).1.length,fls .f32 (scan e.step w xs).1,(scan e.step w xs).2.length,fls .f32 (scan e.step w xs).2):=by
 obtain ⟨hwl,hww⟩:=hf
 rw[f108]
 cases e with
 | scale g =>
   obtain rfl:w=[]:=List.length_eq_zero_iff.1 hwl
   have e1:=i_scaledq (n+100) xs g (by omega) (by omega)
   have e1:f130 (n+101) xs.length (fls .f32 xs) g=_:=e1
   have g1:decide ((0:Int)≤0∧(0:Int)<(([g].length:Nat):Int))=true:=rfl
   have g2:okAt [.flt .f32] (fls .f32 [g]) 0=true:=rfl
   have g3:fAt (fls .f32 [g]) 0=g:=rfl
   have hs:scan (Ef.scale g).step [] xs=(xs.map fun z=>fmul .f32 z g,[]):=scan_pure (fun z=>fmul .f32 z g) xs
   simp only[Ef.eff,beq_self_eq_true,br_t,g1,g2,g3,Bool.and_self,gd_t,e1,bd_s,hs]
   rfl
 | filt a b c d f =>
   have hw2:w.length=2:=hwl
   obtain ⟨u,v,hs2,hs⟩:=sim_filt a b c d f xs w hw2
   have e1:=i_frun (n+96) (a,b,c,d,f) 1 true (w.getD 0 0,w.getD 1 0,0,0) xs hx ⟨w32_at hww 0,w32_at hww 1,w32_zero,w32_zero⟩ (by omega) (by omega)
   rw[hs] at e1
   have e1:f131 (n+101) a b c d f 1 true (w.getD 0 0) (w.getD 1 0) 0 0 xs.length (fls .f32 xs)=_:=e1
   have g (i:Nat) (hi:i<5):okAt [.flt .f32] (fls .f32 [a,b,c,d,f]) i=true:=okAt_fls (by simpa using hi)
   have k0:fAt (fls .f32 [a,b,c,d,f]) 0=a:=rfl
   have k1:fAt (fls .f32 [a,b,c,d,f]) 1=b:=rfl
   have k2:fAt (fls .f32 [a,b,c,d,f]) 2=c:=rfl
   have k3:fAt (fls .f32 [a,b,c,d,f]) 3=d:=rfl
   have k4:fAt (fls .f32 [a,b,c,d,f]) 4=f:=rfl
   have d0:decide ((0:Int)≤0∧(0:Int)<(([a,b,c,d,f].length:Nat):Int))=true:=rfl
   have d1:decide ((0:Int)≤1∧(1:Int)<(([a,b,c,d,f].length:Nat):Int))=true:=rfl
   have d2:decide ((0:Int)≤2∧(2:Int)<(([a,b,c,d,f].length:Nat):Int))=true:=rfl
   have d3:decide ((0:Int)≤3∧(3:Int)<(([a,b,c,d,f].length:Nat):Int))=true:=rfl
   have d4:decide ((0:Int)≤4∧(4:Int)<(([a,b,c,d,f].length:Nat):Int))=true:=rfl
   have w0:okAt [.flt .f32] (fls .f32 w) 0=true:=okAt_fls (by omega)
   have w1:okAt [.flt .f32] (fls .f32 w) 1=true:=okAt_fls (by omega)
   have q0:decide ((0:Int)≤0∧(0:Int)<(w.length:Int))=true:=decide_eq_true (by omega)
   have q1:decide ((0:Int)≤1∧(1:Int)<(w.length:Int))=true:=decide_eq_true (by omega)
   simp only[Ef.eff,show ((1:Int)==0)=false from rfl,beq_self_eq_true,br_t,br_f,g 0 (by decide),g 1 (by decide),g 2 (by decide),g 3 (by decide),g 4 (by decide),k0,k1,k2,k3,k4,d0,d1,d2,d3,d4,w0,w1,q0,q1,fAt_fls,Bool.and_self,gd_t,e1,bd_s,hs2]
   rfl
 | echo L p q =>
   have hL:1≤L∧L≤32:=he
   have hwL:w.length=L:=hwl
   have e0:=i_copy (n+100) w (by omega)
   have e0:f79 (n+101) w.length (fls .f32 w)=_:=e0
   have e1:=i_echo_loop (n+98) xs.length (fls .f32 xs) p q xs [] [] w (n+101) (by omega) (by omega) (by simp;omega) (by simp;omega) (by omega)
   have e1:f108.l0 (n+101) (n+101) xs.length (fls .f32 xs) [p,q].length (fls .f32 [p,q]) w.length (fls .f32 w) 0 [] xs.length (fls .f32 xs) (xs.length:Int) 0=_:=e1
   simp only[Ef.eff,show ((2:Int)==0)=false from rfl,show ((2:Int)==1)=false from rfl,beq_self_eq_true,br_t,br_f,e0,bd_s,e1]
   rfl
 | squeeze a r t q =>
   have hw1:w.length=1:=hwl
   obtain ⟨u,hs2,hs⟩:=sim_squeeze a r t q xs w hw1
   have e1:=i_runsqueeze (n+96) a r (w.getD 0 0) t q xs hx hl (by omega)
   rw[hs] at e1
   have e1:f134 (n+101) a r (w.getD 0 0) t q xs.length (fls .f32 xs)=_:=e1
   have g (i:Nat) (hi:i<4):okAt [.flt .f32] (fls .f32 [a,r,t,q]) i=true:=okAt_fls (by simpa using hi)
   have k0:fAt (fls .f32 [a,r,t,q]) 0=a:=rfl
   have k1:fAt (fls .f32 [a,r,t,q]) 1=r:=rfl
   have k2:fAt (fls .f32 [a,r,t,q]) 2=t:=rfl
   have k3:fAt (fls .f32 [a,r,t,q]) 3=q:=rfl
   have d0:decide ((0:Int)≤0∧(0:Int)<(([a,r,t,q].length:Nat):Int))=true:=rfl
   have d1:decide ((0:Int)≤1∧(1:Int)<(([a,r,t,q].length:Nat):Int))=true:=rfl
   have d2:decide ((0:Int)≤2∧(2:Int)<(([a,r,t,q].length:Nat):Int))=true:=rfl
   have d3:decide ((0:Int)≤3∧(3:Int)<(([a,r,t,q].length:Nat):Int))=true:=rfl
   have w0:okAt [.flt .f32] (fls .f32 w) 0=true:=okAt_fls (by omega)
   have q0:decide ((0:Int)≤0∧(0:Int)<(w.length:Int))=true:=decide_eq_true (by omega)
   simp only[Ef.eff,show ((3:Int)==0)=false from rfl,show ((3:Int)==1)=false from rfl,show ((3:Int)==2)=false from rfl,beq_self_eq_true,br_t,br_f,g 0 (by decide),g 1 (by decide),g 2 (by decide),g 3 (by decide),k0,k1,k2,k3,d0,d1,d2,d3,w0,q0,Bool.and_self,gd_t]
   rw[fAt_fls]
   simp only[e1,bd_s,hs2]
   rfl
 | clip g =>
   obtain rfl:w=[]:=List.length_eq_zero_iff.1 hwl
   have e1:=i_clips (n+97) g xs hx hl (by omega)
   have e1:f135 (n+101) xs.length (fls .f32 xs) g=_:=e1
   have g1:decide ((0:Int)≤0∧(0:Int)<(([g].length:Nat):Int))=true:=rfl
   have g2:okAt [.flt .f32] (fls .f32 [g]) 0=true:=rfl
   have g3:fAt (fls .f32 [g]) 0=g:=rfl
   have hs:scan (Ef.clip g).step [] xs=(xs.map (clipM g),[]):=scan_pure (clipM g) xs
   simp only[Ef.eff,show ((4:Int)==0)=false from rfl,show ((4:Int)==1)=false from rfl,show ((4:Int)==2)=false from rfl,show ((4:Int)==3)=false from rfl,beq_self_eq_true,br_t,br_f,g1,g2,g3,Bool.and_self,gd_t,e1,bd_s,hs,List.length_map]
   rfl
 | bend =>
   obtain rfl:w=[]:=List.length_eq_zero_iff.1 hwl
   have e1:=i_bends_loop (n+100) xs.length (fls .f32 xs) xs [] [] (n+101) (by simp;omega) (by simp;omega) (by omega)
   have e1:f108.l1 (n+101) (n+101) xs.length (fls .f32 xs) 0 [] xs.length (fls .f32 xs) (xs.length:Int) 0=_:=e1
   have hs:scan Ef.bend.step [] xs=(xs.map bendM,[]):=scan_pure bendM xs
   simp only[Ef.eff,show ((5:Int)==0)=false from rfl,show ((5:Int)==1)=false from rfl,show ((5:Int)==2)=false from rfl,show ((5:Int)==3)=false from rfl,show ((5:Int)==4)=false from rfl,beq_self_eq_true,br_t,br_f,e1,bd_s,hs]
   rfl
 | lim A k r =>
   have hA:A≤32∧W32 k∧(fin32 k&&fgt .f32 k 0)=true:=he
   have hwA:w.length=A+1:=hwl
   obtain ⟨gg,v,hs2,hs⟩:=sim_lim A k r xs w hwA
   have hk:=hA.2.2
   have e1:=i_runlimiter n k r (w.getD 0 0) (w.drop 1) xs hA.2.1 hk (w32_at hww 0) (fun y hy=>hww y (List.mem_of_mem_drop hy)) (by simp;omega) hx hl (by omega)
   rw[hs,List.length_drop] at e1
   have hfit:=run_fit (e:=.lim A k r) he xs ⟨hwl,hww⟩ hx
   have hv:v.length=A:=by
    have h1:(scan (Ef.lim A k r).step w xs).2.length=A+1:=hfit.2.1
    rw[hs2] at h1
    simpa using h1
   have g1:decide ((0:Int)≤0∧(0:Int)<(([k,r].length:Nat):Int))=true:=rfl
   have g2:okAt [.flt .f32] (fls .f32 [k,r]) 0=true:=rfl
   have g3:fAt (fls .f32 [k,r]) 0=k:=rfl
   have g4:decide ((0:Int)≤1∧(1:Int)<(([k,r].length:Nat):Int))=true:=rfl
   have g5:okAt [.flt .f32] (fls .f32 [k,r]) 1=true:=rfl
   have g6:fAt (fls .f32 [k,r]) 1=r:=rfl
   have w0:okAt [.flt .f32] (fls .f32 w) 0=true:=okAt_fls (by omega)
   have q0:decide ((0:Int)≤0∧(0:Int)<(w.length:Int))=true:=decide_eq_true (by omega)
   have q1:decide ((0:Int)≤1∧(1:Int)≤(w.length:Int)∧(w.length:Int)≤(w.length:Int))=true:=decide_eq_true (by omega)
   have b1:Nat.ble (1+v.length) 2147483648=true:=by rw[Nat.ble_eq];omega
   simp only[Ef.eff,show ((6:Int)==0)=false from rfl,show ((6:Int)==1)=false from rfl,show ((6:Int)==2)=false from rfl,show ((6:Int)==3)=false from rfl,show ((6:Int)==4)=false from rfl,show ((6:Int)==5)=false from rfl,br_f,g1,g2,g3,g4,g5,g6,w0,q0,q1,Bool.and_self,gd_t,drop_one]
   rw[fAt_fls]
   simp only[e1,bd_s,b1,gd_t,hs2]
   rw[Nat.add_comm 1 v.length]
   rfl
theorem i_chain_loop (n:Nat) (hn:600<n) (N N2:Nat) (cs:List T) (es:List Ef) (hle:es.length≤100) (ho:∀ e∈es,e.Ok) (ls:List (List Nat)) (hf:Fits es ls):∀ (j i m:Nat) (P:List (List Nat)) (xs:List Nat),i+j=es.length→P.length≤i→AllW xs→xs.length≤256→j<m →
  f72.l0 (n+102) m N cs ls.length (ls.map rwF) xs.length (fls .f32 xs) P.length (P.map rwF) es.length (effs (effL es)) (es.length:Int) (i:Int) =
   some ((chainGo (es.drop i) (ls.drop i) xs).1.length,fls .f32 (chainGo (es.drop i) (ls.drop i) xs).1,(P++(chainGo (es.drop i) (ls.drop i) xs).2).length,(P++(chainGo (es.drop i) (ls.drop i) xs).2).map rwF):=by
 have hlen:=hf.len
 intro j
 induction j with
 | zero =>
   intro i m P xs hi hP hx hl hm
   obtain ⟨m,rfl⟩:∃ k,m=k+1:=⟨m - 1,by omega⟩
   rw[f72.l0,nlt_dec (by omega),List.drop_eq_nil_of_le (show es.length≤i by omega),List.drop_eq_nil_of_le (show ls.length≤i by omega)]
   simp only[br_f,chainGo,List.append_nil]
 | succ j ih =>
   intro i m P xs hi hP hx hl hm
   obtain ⟨m,rfl⟩:∃ k,m=k+1:=⟨m - 1,by omega⟩
   have h:i<es.length:=by omega
   have he:i<(effL es).length:=by rw[effL_length];exact h
   have hil:i<ls.length:=by omega
   have hO:=ho _ (efAt_mem h)
   have hF:=hf.at i h
   have e1:=i_effectrun n hO hF hx hl hn
   obtain ⟨f1,f2⟩:=run_fit hO xs hF hx
   have l1:(scan (efAt es i).step (row ls i) xs).1.length=xs.length:=scan_length _ _ _
   have step:=ih (i+1) m (P++[(scan (efAt es i).step (row ls i) xs).2]) (scan (efAt es i).step (row ls i) xs).1 (by omega) (by simp;omega) f1 (by omega) (by omega)
   have hd:chainGo (es.drop i) (ls.drop i) xs=((chainGo (es.drop (i+1)) (ls.drop (i+1)) (scan (efAt es i).step (row ls i) xs).1).1,(scan (efAt es i).step (row ls i) xs).2::(chainGo (es.drop (i+1)) (ls.drop (i+1)) (scan (efAt es i).step (row ls i) xs).1).2):=by
    rw[ef_drop h,row_drop hil];rfl
   have hp:=push_rw P (scan (efAt es i).step (row ls i) xs).2
   rw[f72.l0,lt_dec h,in_dec h,in_dec hil,Int.toNat_natCast,okE he,okR hil]
   simp only[br_t,Bool.and_self,gd_t,kE he,gE he,nE he,lE he,effL_at h,nR hil,lR hil,e1,bd_s,push_ok (show P.length<2147483648 by omega),hp,wrap_succ (show i<9223372036854775807 by omega)]
   rw[push_len (z:=(scan (efAt es i).step (row ls i) xs).2),step,hd]
   simp
theorem i_runchain_ (n:Nat) (hn:600<n) (es:List Ef) (hle:es.length≤100) (ho:∀ e∈es,e.Ok) (ls:List (List Nat)) (hf:Fits es ls) (xs:List Nat) (hx:AllW xs) (hl:xs.length≤256) :
  f72 (n+103) es.length (effs (effL es)) ls.length (ls.map rwF) xs.length (fls .f32 xs) =
   some ((chainGo es ls xs).1.length,fls .f32 (chainGo es ls xs).1,(chainGo es ls xs).2.length,(chainGo es ls xs).2.map rwF):=by
 have e1:=i_chain_loop n hn es.length es.length (effs (effL es)) es hle ho ls hf es.length 0 (n+102) [] xs (by omega) (by simp) hx hl (by omega)
 have e1:f72.l0 (n+102) (n+102) es.length (effs (effL es)) ls.length (ls.map rwF) xs.length (fls .f32 xs) 0 [] es.length (effs (effL es)) (es.length:Int) 0=_:=e1
 have e0:=i_copy (n+101) xs (by omega)
 have e0:f79 (n+102) xs.length (fls .f32 xs)=_:=e0
 rw[f72,e0]
 simp only[bd_s,e1,List.drop_zero,List.nil_append]
theorem s_sizeW (n:Nat) {x:Nat} (hg:W32 x):f158 (n+3) x=some (size32 x):=by
 have hx:=hg.1
 rw[f158]
 cases hn:isNaN .f32 x
 ·obtain ⟨c1,c2,c3⟩:=neg_size hx hn
  cases hf:flt .f32 x 0
  ·have hb:f119 (n+2) x=some (x:Int):=by
    rw[f119,fne_nan,hn]
    show bd (if isNaN .f32 x then none else some (x:Int)) _=_
    rw[hn]
    show some (IntKind.i64.wrap (x:Int))=_
    rw[wrap64] <;>omega
   rw[hb]
   simp only[br,bd]
   by_cases h:x=2147483648
   ·subst h
    rw[c3];rfl
   ·rw[show (((x:Nat):Int)==2147483648)=false by simp;omega]
    rcases c2 hf with h' | h'
    ·exact absurd h' h
    ·simp only;rw[← h']
  ·simp only[br];rw[c1 hf]
 ·have hq:x=qnan .f32:=by rw[← hg.2,canon_nan hn]
  rw[flt_nan 0 hn,size_nan hn]
  have hb:f119 (n+2) x=some 2143289344:=by rw[f119,fne_nan,hn];rfl
  rw[hb,hq];rfl
theorem s_bits (n:Nat) {x:Nat} (h:W32 x):f119 (n+2) x=some (x:Int):=by
 rw[f119,fne_nan]
 cases hn:isNaN .f32 x
 ·have:xF32bits (n+1) x=some (x:Int):=by simp[xF32bits,hn]
  have hx:=h.1
  simp only[br_f,this,bd_s]
  rw[wrap64] <;>omega
 ·rw[br_t,← h.2,canon_nan hn];rfl
theorem s_flush (n:Nat) {x:Nat} (h:W32 x):f124 (n+3) x=some (flushM x):=by
 rw[f124,s_bits n h]
 simp only[bd_s,exp_zero x h.1,sign_bits x h.1]
 unfold flushM
 by_cases hx:x % 2147483648<8388608
 ·rw[decide_eq_true hx,if_pos hx,br_t,s_fromx n (by omega) (by have:=h.1;omega),Int.toNat_natCast]
  have:canon .f32 (x / 2147483648 * 2147483648)=x / 2147483648 * 2147483648:=canon_num (by rw[nan32];simp <;>omega)
  rw[this];rfl
 ·rw[decide_eq_false hx,if_neg hx];rfl
theorem reps0 (x:T) (l:List T):reps 0 [x]++l=l:=rfl
theorem s_scale_loop (n:Nat) (by_:Nat):∀ (zs p acc:List Nat) (m:Nat),acc.length+zs.length<1048576→p.length+zs.length<1048576→zs.length<m →
  f122.l0 n m (p++zs).length (fls .f32 (p++zs)) by_ acc.length (fls .f32 acc) (p.length:Int)=some ((acc++zs.map fun z=>fmul .f32 z by_).length,fls .f32 (acc++zs.map fun z=>fmul .f32 z by_)):=by
 intro zs
 induction zs with
 | nil =>
   intro p acc m _ _ hm
   obtain ⟨m,rfl⟩:∃ k,m=k+1:=⟨m - 1,by simp at hm;omega⟩
   rw[f122.l0,lt_end]
   simp[br_f]
 | cons z zs ih =>
   intro p acc m ha hp hm
   obtain ⟨m,rfl⟩:∃ k,m=k+1:=⟨m - 1,by simp at hm;omega⟩
   have ha':acc.length<1048576:=by simp at ha;omega
   rw[f122.l0,lt_mid,in_mid,toNat_len,okAt_mid,fAt_mid]
   have:=ih (p++[z]) (acc++[fmul .f32 z by_]) m (by simp at ha ⊢;omega) (by simp at hp ⊢;omega) (by simp at hm;omega)
   simp only[br_t,gd_t,Bool.and_self,push_fls,push_ok (show acc.length<2147483648 by omega),wrap_len (z:=z) (show p.length<4611686018427387904 by simp at hp;omega)]
   simpa using this
theorem s_scaleq (n:Nat) (xs:List Nat) (by_:Nat) (hx:xs.length<1048576) (hn:xs.length<n):f122 (n+1) xs.length (fls .f32 xs) by_=some ((xs.map fun z=>fmul .f32 z by_).length,fls .f32 (xs.map fun z=>fmul .f32 z by_)):=by
 have e:=s_scale_loop n by_ xs [] [] n (by simpa using hx) (by simpa using hx) (by omega)
 have e:f122.l0 n n xs.length (fls .f32 xs) by_ 0 (reps 0 [(T.flt .f32 0)]) 0=_:=e
 rw[f122,e];rfl
theorem s_flushq (n:Nat) {x:Nat} (b:Bool) (h:W32 x):f172 (n+4) x b=some (fl? b x):=by
 rw[f172]
 cases b
 ·rfl
 ·simp only[br_t,s_flush n h,bd_s];rfl
theorem s_fstep (n:Nat) (f:Filt) (form:Int) (b:Bool) (m:Mem) (x:Nat) (hm:WMem m) (hx:W32 x) :
  f154 (n+5) f.1 f.2.1 f.2.2.1 f.2.2.2.1 f.2.2.2.2 form b m.1 m.2.1 m.2.2.1 m.2.2.2 x =
   some ((fstep f form b m x).1,(fstep f form b m x).2.1,(fstep f form b m x).2.2.1,(fstep f form b m x).2.2.2.1,(fstep f form b m x).2.2.2.2):=by
 obtain ⟨m1,m2,m3,m4⟩:=hm
 rw[f154]
 unfold fstep
 by_cases h0:form=0
 ·simp only[h0,beq_self_eq_true,br_t,if_true,s_flushq n b (w32_fsub _ _),bd_s]
  cases b
  ·rfl
  ·simp only[br_t,s_flush (n+1) hx,s_flush (n+1) m1,s_flush (n+1) m3,s_flush (n+1) (w32_fl? (b:=true) (w32_fsub _ _)),bd_s];rfl
 ·have h0':(form==0)=false:=by simp[h0]
  simp only[h0',br_f,if_neg h0]
  by_cases h1:form=1
  ·simp only[h1,beq_self_eq_true,br_t,if_true,s_flushq n b (w32_fadd _ _),bd_s]
   cases b
   ·rfl
   ·simp only[br_t,s_flush (n+1) (w32_fadd _ _),s_flush (n+1) (w32_fsub _ _),s_flush (n+1) w32_zero,bd_s];rfl
  ·have h1':(form==1)=false:=by simp[h1]
   simp only[h1',br_f,if_neg h1,s_flushq n b (w32_fsub _ _),bd_s,s_flushq n b (w32_fadd _ _)]
   cases b
   ·rfl
   ·simp only[br_t,s_flush (n+1) (w32_fl? (b:=true) (w32_fsub _ _)),s_flush (n+1) m1,s_flush (n+1) w32_zero,bd_s];rfl
theorem s_frun_loop (n:Nat) (f:Filt) (form:Int) (b:Bool) (u:Mem):∀ (zs p acc:List Nat) (mm:Mem) (m:Nat),(∀ x∈zs,W32 x)→WMem mm→acc.length+zs.length<1048576→p.length+zs.length<1048576→zs.length<m →
  f123.l0 (n+5) m f.1 f.2.1 f.2.2.1 f.2.2.2.1 f.2.2.2.2 form b (p++zs).length (fls .f32 (p++zs)) mm.1 mm.2.1 mm.2.2.1 mm.2.2.2 u.1 u.2.1 u.2.2.1 u.2.2.2 acc.length (fls .f32 acc) (p.length:Int) =
   some ((scan (fstep f form b) mm zs).2.1,(scan (fstep f form b) mm zs).2.2.1,(scan (fstep f form b) mm zs).2.2.2.1,(scan (fstep f form b) mm zs).2.2.2.2,u.1,u.2.1,u.2.2.1,u.2.2.2,(acc++(scan (fstep f form b) mm zs).1).length,fls .f32 (acc++(scan (fstep f form b) mm zs).1)):=by
 intro zs
 induction zs with
 | nil =>
   intro p acc mm m _ _ _ _ hm
   obtain ⟨m,rfl⟩:∃ k,m=k+1:=⟨m - 1,by simp at hm;omega⟩
   rw[f123.l0,lt_end]
   simp[br_f,scan]
 | cons z zs ih =>
   intro p acc mm m hz hmm ha hp hm
   obtain ⟨m,rfl⟩:∃ k,m=k+1:=⟨m - 1,by simp at hm;omega⟩
   have ha':acc.length<1048576:=by simp at ha;omega
   have hw:=hz z (by simp)
   rw[f123.l0,lt_mid,in_mid,toNat_len,okAt_mid,fAt_mid]
   simp only[br_t,gd_t,Bool.and_self,s_fstep n f form b mm z hmm hw,bd_s,push_ok (show acc.length<2147483648 by omega),push_fls,wrap_len (z:=z) (show p.length<4611686018427387904 by simp at hp;omega)]
   have:=ih (p++[z]) (acc++[(fstep f form b mm z).1]) (fstep f form b mm z).2 m (fun x hx=>hz x (by simp[hx])) (fstep_w32 hmm hw).2 (by simp at ha ⊢;omega) (by simp at hp ⊢;omega) (by simp at hm;omega)
   simpa [scan] using this
theorem s_frun (n:Nat) (f:Filt) (form:Int) (b:Bool) (mm:Mem) (xs:List Nat) (hx:∀ x∈xs,W32 x) (hm:WMem mm) (hl:xs.length<1048576) (hn:xs.length<n) :
  f123 (n+6) f.1 f.2.1 f.2.2.1 f.2.2.2.1 f.2.2.2.2 form b mm.1 mm.2.1 mm.2.2.1 mm.2.2.2 xs.length (fls .f32 xs) =
   some ((scan (fstep f form b) mm xs).1.length,fls .f32 (scan (fstep f form b) mm xs).1,(scan (fstep f form b) mm xs).2.1,(scan (fstep f form b) mm xs).2.2.1,(scan (fstep f form b) mm xs).2.2.2.1,(scan (fstep f form b) mm xs).2.2.2.2):=by
 have e:=s_frun_loop n f form b (0,0,0,0) xs [] [] mm (n+5) hx hm (by simpa using hl) (by simpa using hl) (by omega)
 have e:f123.l0 (n+5) (n+5) f.1 f.2.1 f.2.2.1 f.2.2.2.1 f.2.2.2.2 form b xs.length (fls .f32 xs) mm.1 mm.2.1 mm.2.2.1 mm.2.2.2 0 0 0 0 0 (reps 0 [(T.flt .f32 0)]) 0=_:=e
 rw[f123,e];rfl
theorem s_fol (n:Nat) (a r q:Nat) {l x:Nat} (hx:W32 x):f155 (n+4) a r q l x=some (levelM a r l x):=by
 rw[f155,s_sizeW n hx]
 unfold levelM
 simp only[bd_s,s_flush n (w32_fadd _ _)]
 cases fgt .f32 (size32 x) l <;>rfl
theorem s_gain (n l t q:Nat):f156 (n+1) l t q=some (gainM l t q):=by
 rw[f156]
 unfold gainM
 cases fgt .f32 l t <;>rfl
theorem s_squeeze_loop (n:Nat) (a r t q u1 u2 u3 u4 u5:Nat):∀ (zs p acc:List Nat) (l m:Nat),(∀ x∈zs,W32 x)→acc.length+zs.length<1048576→p.length+zs.length<1048576→zs.length<m →
  f125.l0 (n+4) m (p++zs).length (fls .f32 (p++zs)) (p++zs).length (fls .f32 (p++zs)) a r l t q u1 u2 u3 u4 u5 acc.length (fls .f32 acc) (p.length:Int) =
   some (a,r,(scan (duckStep a r t q) l (zs.zip zs)).2,t,q,u1,u2,u3,u4,u5,(acc++(scan (duckStep a r t q) l (zs.zip zs)).1).length,fls .f32 (acc++(scan (duckStep a r t q) l (zs.zip zs)).1)):=by
 intro zs
 induction zs with
 | nil =>
   intro p acc l m _ _ _ hm
   obtain ⟨m,rfl⟩:∃ k,m=k+1:=⟨m - 1,by simp at hm;omega⟩
   rw[f125.l0,lt_end];simp[br_f,scan]
 | cons z zs ih =>
   intro p acc l m hz ha hp hm
   obtain ⟨m,rfl⟩:∃ k,m=k+1:=⟨m - 1,by simp at hm;omega⟩
   have ha':acc.length<1048576:=by simp at ha;omega
   rw[f125.l0,lt_mid,in_mid,toNat_len,okAt_mid,fAt_mid]
   simp only[br_t,gd_t,Bool.and_self,s_fol n a r l (hz z (by simp)),s_gain (n+3),bd_s,push_ok (show acc.length<2147483648 by omega),push_fls,wrap_len (z:=z) (show p.length<4611686018427387904 by simp at hp;omega)]
   have:=ih (p++[z]) (acc++[fmul .f32 z (gainM (levelM a r l z) t q)]) (levelM a r l z) m (fun x hx=>hz x (by simp[hx])) (by simp at ha ⊢;omega) (by simp at hp ⊢;omega) (by simp at hm;omega)
   simpa [scan,duckStep] using this
theorem s_squeezed (n:Nat) (a r l t q:Nat) (xs:List Nat) (hx:∀ x∈xs,W32 x) (hl:xs.length≤256) (hn:xs.length<n) :
  f125 (n+5) a r l t q xs.length (fls .f32 xs) xs.length (fls .f32 xs)=some ((scan (duckStep a r t q) l (xs.zip xs)).1.length,fls .f32 (scan (duckStep a r t q) l (xs.zip xs)).1,a,r,(scan (duckStep a r t q) l (xs.zip xs)).2,t,q):=by
 have e:=s_squeeze_loop n a r t q 0 0 0 0 0 xs [] [] l (n+4) hx (by simp;omega) (by simp;omega) (by omega)
 have e:f125.l0 (n+4) (n+4) xs.length (fls .f32 xs) xs.length (fls .f32 xs) a r l t q 0 0 0 0 0 0 (reps 0 [(T.flt .f32 0)]) 0=_:=e
 rw[f125,e];rfl
theorem s_clip (n:Nat) (lim:Nat) {x:Nat} (hx:W32 x):f157 (n+4) x lim=some (clipM lim x):=by
 rw[f157,s_sizeW n hx]
 simp only[bd_s]
 unfold clipM
 cases fgt .f32 (size32 x) lim <;>cases flt .f32 x 0 <;>rfl
theorem s_clips_loop (n:Nat) (lim:Nat):∀ (zs p acc:List Nat) (m:Nat),(∀ x∈zs,W32 x)→acc.length+zs.length<1048576→p.length+zs.length<1048576→zs.length<m →
  f126.l0 (n+4) m (p++zs).length (fls .f32 (p++zs)) lim acc.length (fls .f32 acc) (p.length:Int)=some ((acc++zs.map (clipM lim)).length,fls .f32 (acc++zs.map (clipM lim))):=by
 intro zs
 induction zs with
 | nil =>
   intro p acc m _ _ _ hm
   obtain ⟨m,rfl⟩:∃ k,m=k+1:=⟨m - 1,by simp at hm;omega⟩
   rw[f126.l0,lt_end];simp[br_f]
 | cons z zs ih =>
   intro p acc m hz ha hp hm
   obtain ⟨m,rfl⟩:∃ k,m=k+1:=⟨m - 1,by simp at hm;omega⟩
   have ha':acc.length<1048576:=by simp at ha;omega
   rw[f126.l0,lt_mid,in_mid,toNat_len,okAt_mid,fAt_mid]
   simp only[br_t,gd_t,Bool.and_self,s_clip n lim (hz z (by simp)),bd_s,push_ok (show acc.length<2147483648 by omega),push_fls,wrap_len (z:=z) (show p.length<4611686018427387904 by simp at hp;omega)]
   have:=ih (p++[z]) (acc++[clipM lim z]) m (fun x hx=>hz x (by simp[hx])) (by simp at ha ⊢;omega) (by simp at hp ⊢;omega) (by simp at hm;omega)
   simpa using this
theorem s_clips (n:Nat) (lim:Nat) (xs:List Nat) (hx:∀ x∈xs,W32 x) (hl:xs.length≤256) (hn:xs.length<n):f126 (n+5) xs.length (fls .f32 xs) lim=some (xs.length,fls .f32 (xs.map (clipM lim)),true):=by
 have e:=s_clips_loop n lim xs [] [] (n+4) hx (by simp;omega) (by simp;omega) (by omega)
 have e:f126.l0 (n+4) (n+4) xs.length (fls .f32 xs) lim 0 (reps 0 [(T.flt .f32 0)]) 0=_:=e
 rw[f126,s_few,decide_eq_true (show (xs.length:Int)≤256 by omega)]
 simp only[bd_s,br_not,br_t,e,List.nil_append,List.length_map]
theorem s_bend (n x:Nat):f127 (n+1) x=some (bendM x):=by
 rw[f127]
 unfold bendM
 cases fge .f32 x 1065353216
 ·cases fle .f32 x 3212836864 <;>rfl
 ·rfl
theorem s_bends_loop (n:Nat):∀ (zs p acc:List Nat) (m:Nat),acc.length+zs.length<1048576→p.length+zs.length<1048576→zs.length<m →
  f104.l1 (n+1) m (p++zs).length (fls .f32 (p++zs)) acc.length (fls .f32 acc) (p.length:Int)=some ((acc++zs.map bendM).length,fls .f32 (acc++zs.map bendM)):=by
 intro zs
 induction zs with
 | nil =>
   intro p acc m _ _ hm
   obtain ⟨m,rfl⟩:∃ k,m=k+1:=⟨m - 1,by simp at hm;omega⟩
   rw[f104.l1,lt_end];simp[br]
 | cons z zs ih =>
   intro p acc m ha hp hm
   obtain ⟨m,rfl⟩:∃ k,m=k+1:=⟨m - 1,by simp at hm;omega⟩
   have:=ih (p++[z]) (acc++[bendM z]) m (by simp at ha ⊢;omega) (by simp at hp ⊢;omega) (by simp at hm;omega)
   rw[f104.l1,lt_mid,in_mid,toNat_len,okAt_mid,fAt_mid,wrap_len (z:=z) (show p.length<4611686018427387904 by simp at hp;omega)]
   simp only[br_t,gd_t,Bool.and_self,s_bend,bd_s,push_ok (show acc.length<2147483648 by simp at ha;omega),push_fls]
   simpa using this
theorem s_echo_loop (n:Nat) (pp qq:Nat):∀ (zs p acc w:List Nat) (m:Nat),0<w.length→w.length≤64→acc.length+zs.length<1048576→p.length+zs.length<1048576→zs.length<m →
  f104.l0 (n+3) m (p++zs).length (fls .f32 (p++zs)) 2 (fls .f32 [pp,qq]) w.length (fls .f32 w) acc.length (fls .f32 acc) (p.length:Int) =
   some ((scan (echoStep pp qq) w zs).2.length,fls .f32 (scan (echoStep pp qq) w zs).2,(acc++(scan (echoStep pp qq) w zs).1).length,fls .f32 (acc++(scan (echoStep pp qq) w zs).1)):=by
 intro zs
 induction zs with
 | nil =>
   intro p acc w m _ _ _ _ hm
   obtain ⟨m,rfl⟩:∃ k,m=k+1:=⟨m - 1,by simp at hm;omega⟩
   rw[f104.l0,lt_end];simp[br,scan]
 | cons z zs ih =>
   intro p acc w m h0 h1 ha hp hm
   obtain ⟨m,rfl⟩:∃ k,m=k+1:=⟨m - 1,by simp at hm;omega⟩
   have hlen:(echoStep pp qq w z).2.length=w.length:=took_length h0
   have step:=ih (p++[z]) (acc++[(echoStep pp qq w z).1]) (echoStep pp qq w z).2 m (by omega) (by omega) (by simp at ha ⊢;omega) (by simp at hp ⊢;omega) (by simp at hm;omega)
   have g1:decide ((0:Int)≤0∧(0:Int)<(w.length:Int))=true:=decide_eq_true (by omega)
   have g2:okAt [.flt .f32] (fls .f32 w) 0=true:=okAt_fls h0
   have g3:fAt (fls .f32 w) 0=headM w:=fAt_fls ..
   have g4:decide ((0:Int)≤1∧(1:Int)<((2:Nat):Int))=true:=rfl
   have g5:decide ((0:Int)≤0∧(0:Int)<((2:Nat):Int))=true:=rfl
   have g6:okAt [.flt .f32] (fls .f32 [pp,qq]) 0=true:=rfl
   have g7:okAt [.flt .f32] (fls .f32 [pp,qq]) 1=true:=rfl
   have g8:fAt (fls .f32 [pp,qq]) 0=pp:=rfl
   have g9:fAt (fls .f32 [pp,qq]) 1=qq:=rfl
   have g10:decide ((0:Int)≤1∧(1:Int)≤(w.length:Int)∧(w.length:Int)≤(w.length:Int))=true:=decide_eq_true (by omega)
   have g11:Nat.ble (0+(w.length - 1)) 2147483648=true:=le_ble (by omega)
   have g12:Nat.ble (echoStep pp qq w z).2.length 2147483648=true:=le_ble (by omega)
   have tk:∀ y,(reps 0 [(T.flt .f32 0)]++((fls .f32 w).drop 1).take (w.length - 1))++setN (reps 1 [(T.flt .f32 0)]) 0 [T.flt .f32 y]=fls .f32 (tookM w y):=fun y=>by
    rw[drop_one]
    exact push_fls .f32 (w.drop 1) y
   have tl:0+(w.length - 1)+1=(echoStep pp qq w z).2.length:=by rw[hlen];omega
   rw[f104.l0,lt_mid,in_mid,toNat_len,okAt_mid,fAt_mid]
   have w' :=wrap_len (z:=z) (p:=p) (show p.length<4611686018427387904 by simp at hp;omega)
   simp only[br_t,gd_t,Bool.and_self,g1,g2,g3,g4,g5,g6,g7,g8,g9,g10,g11,g12,push_ok (show acc.length<2147483648 by simp at ha;omega),push_fls,s_flush n (w32_fadd _ _),bd_s,w',tl,tk]
   rw[push_len (z:=(echoStep pp qq w z).1)]
   rw[List.append_assoc,List.append_assoc] at step
   exact step
theorem s_limitB (n:Nat) (l:Nat):f121 (n+2) l=some (fin32 l&&fgt .f32 l 0):=by
 have e:f153 (n+1) l=some (fin32 l):=by rw[f153,sub_finite]
 rw[f121,e]
 cases fin32 l <;>rfl
theorem s_peak_loop (n:Nat) (N:Nat) (cs:List T) (x3 x4 x5:Nat) (n6:Nat) (l7:List T) (x8 x9 x10 n11:Nat) (l12:List T) (n15:Nat) (l16:List T) (i17:Int):∀ (zs p:List Nat) (x m:Nat),(∀ y∈zs,W32 y)→p.length+zs.length<1048576→zs.length<m →
  f128.l1 (n+3) m N cs x3 x4 x5 n6 l7 x8 x9 x10 n11 l12 (p++zs).length (fls .f32 (p++zs)) n15 l16 i17 x (p.length:Int) =
   some (N,cs,x3,x4,x5,n6,l7,x8,x9,x10,n11,l12,(p++zs).length,fls .f32 (p++zs),n15,l16,i17,peakM x zs):=by
 intro zs
 induction zs with
 | nil =>
   intro p x m _ _ hm
   obtain ⟨m,rfl⟩:∃ k,m=k+1:=⟨m - 1,by simp at hm;omega⟩
   rw[f128.l1,lt_end];simp[br,peakM]
 | cons z zs ih =>
   intro p x m hz hp hm
   obtain ⟨m,rfl⟩:∃ k,m=k+1:=⟨m - 1,by simp at hm;omega⟩
   have hs:=s_sizeW n (hz z (by simp))
   have w' :=wrap_len (z:=z) (p:=p) (show p.length<4611686018427387904 by simp at hp;omega)
   rw[f128.l1,lt_mid,in_mid,toNat_len,okAt_mid,fAt_mid]
   simp only[br_t,gd_t,Bool.and_self,hs,bd_s,w']
   have e:peakM x (z::zs)=peakM (if fgt .f32 (size32 z) x then size32 z else x) zs:=rfl
   rw[e]
   cases fgt .f32 (size32 z) x
   ·have:=ih (p++[z]) x m (fun y hy=>hz y (by simp[hy])) (by simp at hp ⊢;omega) (by simp at hm;omega)
    rw[br_f];simpa using this
   ·have:=ih (p++[z]) (size32 z) m (fun y hy=>hz y (by simp[hy])) (by simp at hp ⊢;omega) (by simp at hm;omega)
    rw[br_t];simpa using this
theorem s_lim_loop (n:Nat) (lim rise n6:Nat) (l7:List T) (x8 x9 x10 n11:Nat) (l12:List T) (hl:W32 lim):∀ (zs p acc:List Nat) (s:Nat × List Nat) (m:Nat),(∀ x∈zs,W32 x)→(W32 s.1∧AllW s.2)→s.2.length≤64→acc.length+zs.length<1048576→p.length+zs.length<1048576→zs.length<m →
  f128.l0 (n+100) m (p++zs).length (fls .f32 (p++zs)) lim rise s.1 n6 l7 x8 x9 x10 n11 l12 s.2.length (fls .f32 s.2) acc.length (fls .f32 acc) (p.length:Int) =
   some (lim,rise,(scan (limStep lim rise) s zs).2.1,n6,l7,x8,x9,x10,n11,l12,(scan (limStep lim rise) s zs).2.2.length,fls .f32 (scan (limStep lim rise) s zs).2.2,(acc++(scan (limStep lim rise) s zs).1).length,fls .f32 (acc++(scan (limStep lim rise) s zs).1)):=by
 intro zs
 induction zs with
 | nil =>
   intro p acc s m _ _ _ _ _ hm
   obtain ⟨m,rfl⟩:∃ k,m=k+1:=⟨m - 1,by simp at hm;omega⟩
   rw[f128.l0,lt_end]
   simp[br_f,scan]
 | cons z zs ih =>
   intro p acc s m hz hs hw ha hp hm
   obtain ⟨m,rfl⟩:∃ k,m=k+1:=⟨m - 1,by simp at hm;omega⟩
   have hp':p.length<1048576:=by simp at hp;omega
   have ha':acc.length<1048576:=by simp at ha;omega
   have hall:AllW (s.2++[z]):=fun y hy=>by
    simp only[List.mem_append,List.mem_singleton] at hy
    rcases hy with h | rfl
    ·exact hs.2 y h
    ·exact hz _ (by simp)
   have hpk:=s_peak_loop (n+97) (p++z::zs).length (fls .f32 (p++z::zs)) lim rise s.1 n6 l7 x8 x9 x10 n11 l12 acc.length (fls .f32 acc) (p.length:Int) (s.2++[z]) [] 0 (n+100) hall (by simp;omega) (by simp;omega)
   have hpk:f128.l1 (n+100) (n+100) (p++z::zs).length (fls .f32 (p++z::zs)) lim rise s.1 n6 l7 x8 x9 x10 n11 l12 (s.2++[z]).length (fls .f32 (s.2++[z])) acc.length (fls .f32 acc) (p.length:Int) 0 0=some ((p++z::zs).length,fls .f32 (p++z::zs),lim,rise,s.1,n6,l7,x8,x9,x10,n11,l12,(s.2++[z]).length,fls .f32 (s.2++[z]),acc.length,fls .f32 acc,(p.length:Int),peakM 0 (s.2++[z])):=hpk
   have hlen:s.2.length+1=(s.2++[z]).length:=by simp
   have c0:Nat.ble (s.2++[z]).length 2147483648=true:=le_ble (by simp;omega)
   have c1:decide ((0:Int)≤1∧(1:Int)≤((s.2++[z]).length:Int)∧((s.2++[z]).length:Int)≤((s.2++[z]).length:Int))=true:=decide_eq_true (by simp;omega)
   have c2:reps 0 [(T.flt .f32 0)]++((fls .f32 (s.2++[z])).drop 1).take ((s.2++[z]).length - 1)=fls .f32 ((s.2++[z]).drop 1):=by
    rw[fls_drop,fls_take,List.take_of_length_le (by simp)];rfl
   have c3:decide ((0:Int)≤0∧(0:Int)<((s.2++[z]).length:Int))=true:=decide_eq_true (by simp)
   have c4:okAt [.flt .f32] (fls .f32 (s.2++[z])) 0=true:=okAt_fls (by simp)
   have c5:0+((s.2++[z]).length - 1)=((s.2++[z]).drop 1).length:=by simp
   have c6:Nat.ble ((s.2++[z]).drop 1).length 2147483648=true:=le_ble (by simp;omega)
   have ih' :=ih (p++[z]) (acc++[(limStep lim rise s z).1]) (limStep lim rise s z).2 m (fun x hx=>hz x (by simp[hx]))
    ⟨w32_limG w32_limT (w32_fadd _ _),fun y hy=>hall y (List.mem_of_mem_drop hy)⟩ (by simp[limStep];omega) (by simp at ha ⊢;omega) (by simp at hp ⊢;omega) (by simp at hm;omega)
   rw[show p++[z]++zs=p++z::zs by simp] at ih'
   rw[f128.l0,lt_mid,in_mid,toNat_len,okAt_mid,fAt_mid]
   simp only[br_t,gd_t,Bool.and_self,bd_s,push_fls,hlen,c0,hpk,c1,c2,c3,c4,fAt_fls,c5,c6,s_clip (n+96) lim (w32_fmul _ _),push_ok (show acc.length<2147483648 by omega),wrap_len (z:=z) (show p.length<4611686018427387904 by omega)]
   have e1:scan (limStep lim rise) s (z::zs)=((limStep lim rise s z).1::(scan (limStep lim rise) (limStep lim rise s z).2 zs).1,(scan (limStep lim rise) (limStep lim rise s z).2 zs).2):=rfl
   rw[e1]
   have e2:∀ t gn,limT lim (peakM 0 (s.2++[z]))=t→fadd .f32 s.1 rise=gn→∀ g,limG t gn=g→limStep lim rise s z=(clipM lim (fmul .f32 ((s.2++[z]).getD 0 0) g),(g,(s.2++[z]).drop 1)):=by
    rintro t gn rfl rfl g rfl
    rfl
   have e3:acc++(limStep lim rise s z).1::(scan (limStep lim rise) (limStep lim rise s z).2 zs).1=(acc++[(limStep lim rise s z).1])++(scan (limStep lim rise) (limStep lim rise s z).2 zs).1:=by simp
   have e4:(acc++[(limStep lim rise s z).1]).length=acc.length+1:=by simp
   simp only[e3]
   rw[e4] at ih'
   cases hc:fgt .f32 (peakM 0 (s.2++[z])) lim
   ·have ht:limT lim (peakM 0 (s.2++[z]))=1065353216:=by unfold limT;simp[hc]
    cases h1:flt .f32 1065353216 (fadd .f32 s.1 rise)
    ·cases h2:fne .f32 (fadd .f32 s.1 rise) (fadd .f32 s.1 rise)
     ·have e:=e2 _ _ ht rfl (fadd .f32 s.1 rise) (by unfold limG;simp[h1,h2])
      rw[e] at ih' ⊢
      exact ih'
     ·have e:=e2 _ _ ht rfl 1065353216 (by unfold limG;simp[h1,h2])
      rw[e] at ih' ⊢
      exact ih'
    ·have e:=e2 _ _ ht rfl 1065353216 (by unfold limG;simp[h1])
     rw[e] at ih' ⊢
     exact ih'
   ·have ht:limT lim (peakM 0 (s.2++[z]))=fdiv .f32 lim (peakM 0 (s.2++[z])):=by unfold limT;simp[hc]
    cases h1:flt .f32 (fdiv .f32 lim (peakM 0 (s.2++[z]))) (fadd .f32 s.1 rise)
    ·cases h2:fne .f32 (fadd .f32 s.1 rise) (fadd .f32 s.1 rise)
     ·have e:=e2 _ _ ht rfl (fadd .f32 s.1 rise) (by unfold limG;simp[h1,h2])
      rw[e] at ih' ⊢
      exact ih'
     ·have e:=e2 _ _ ht rfl (fdiv .f32 lim (peakM 0 (s.2++[z]))) (by unfold limG;simp[h1,h2])
      rw[e] at ih' ⊢
      exact ih'
    ·have e:=e2 _ _ ht rfl (fdiv .f32 lim (peakM 0 (s.2++[z]))) (by unfold limG;simp[h1])
     rw[e] at ih' ⊢
     exact ih'
theorem s_runlimiter (n:Nat) (lim rise g:Nat) (w xs:List Nat) (hl:W32 lim) (hlim:(fin32 lim&&fgt .f32 lim 0)=true) (hg:W32 g) (hw:AllW w) (hwl:w.length≤64) (hx:∀ x∈xs,W32 x) (hxl:xs.length≤256) (hn:300<n) :
  f128 (n+101) lim rise g w.length (fls .f32 w) xs.length (fls .f32 xs) =
   some ((scan (limStep lim rise) (g,w) xs).1.length,fls .f32 (scan (limStep lim rise) (g,w) xs).1,lim,rise,(scan (limStep lim rise) (g,w) xs).2.1,(scan (limStep lim rise) (g,w) xs).2.2.length,fls .f32 (scan (limStep lim rise) (g,w) xs).2.2,true):=by
 have e:=s_lim_loop n lim rise w.length (fls .f32 w) 0 0 0 0 [] hl xs [] [] (g,w) (n+100) hx ⟨hg,hw⟩ hwl (by simp;omega) (by simp;omega) (by omega)
 have e:f128.l0 (n+100) (n+100) xs.length (fls .f32 xs) lim rise g w.length (fls .f32 w) 0 0 0 0 [] w.length (fls .f32 w) 0 (reps 0 [(T.flt .f32 0)]) 0=_:=e
 rw[f128,s_limitB,hlim,s_few,decide_eq_false (show ¬ (w.length:Int)>64 by omega),decide_eq_true (show (xs.length:Int)≤256 by omega),le_ble (show 0+w.length≤2147483648 by omega)]
 simp only[bd_s,br_not,br_t,br_f,gd_t,Nat.zero_add,reps0,e,List.nil_append]
theorem s_effects (n:Nat) {e:Ef} (he:e.Ok) {w xs:List Nat} (hf:Fit e w) (hx:AllW xs) (hl:xs.length≤256) (hn:600<n) :
  f104 (n+102) e.eff.kind e.eff.len e.eff.nums.length (fls .f32 e.eff.nums) w.length (fls .f32 w) xs.length (fls .f32 xs) =
   some ((scan e.step w xs).1.length,fls .f32 (scan e.step w xs).1,(scan e.step w xs).2.length,fls .f32 (scan e.step w xs).2):=by
 obtain ⟨hwl,hww⟩:=hf
 rw[f104]
 cases e with
 | scale g =>
   obtain rfl:w=[]:=List.length_eq_zero_iff.1 hwl
   have e1:=s_scaleq (n+100) xs g (by omega) (by omega)
   have e1:f122 (n+101) xs.length (fls .f32 xs) g=_:=e1
   have g1:decide ((0:Int)≤0∧(0:Int)<(([g].length:Nat):Int))=true:=rfl
   have g2:okAt [.flt .f32] (fls .f32 [g]) 0=true:=rfl
   have g3:fAt (fls .f32 [g]) 0=g:=rfl
   have hs:scan (Ef.scale g).step [] xs=(xs.map fun z=>fmul .f32 z g,[]):=scan_pure (fun z=>fmul .f32 z g) xs
   simp only[Ef.eff,beq_self_eq_true,br_t,g1,g2,g3,Bool.and_self,gd_t,e1,bd_s,hs]
   rfl
 | filt a b c d f =>
   have hw2:w.length=2:=hwl
   obtain ⟨u,v,hs2,hs⟩:=sim_filt a b c d f xs w hw2
   have e1:=s_frun (n+95) (a,b,c,d,f) 1 true (w.getD 0 0,w.getD 1 0,0,0) xs hx ⟨w32_at hww 0,w32_at hww 1,w32_zero,w32_zero⟩ (by omega) (by omega)
   rw[hs] at e1
   have e1:f123 (n+101) a b c d f 1 true (w.getD 0 0) (w.getD 1 0) 0 0 xs.length (fls .f32 xs)=_:=e1
   have g (i:Nat) (hi:i<5):okAt [.flt .f32] (fls .f32 [a,b,c,d,f]) i=true:=okAt_fls (by simpa using hi)
   have k0:fAt (fls .f32 [a,b,c,d,f]) 0=a:=rfl
   have k1:fAt (fls .f32 [a,b,c,d,f]) 1=b:=rfl
   have k2:fAt (fls .f32 [a,b,c,d,f]) 2=c:=rfl
   have k3:fAt (fls .f32 [a,b,c,d,f]) 3=d:=rfl
   have k4:fAt (fls .f32 [a,b,c,d,f]) 4=f:=rfl
   have d0:decide ((0:Int)≤0∧(0:Int)<(([a,b,c,d,f].length:Nat):Int))=true:=rfl
   have d1:decide ((0:Int)≤1∧(1:Int)<(([a,b,c,d,f].length:Nat):Int))=true:=rfl
   have d2:decide ((0:Int)≤2∧(2:Int)<(([a,b,c,d,f].length:Nat):Int))=true:=rfl
   have d3:decide ((0:Int)≤3∧(3:Int)<(([a,b,c,d,f].length:Nat):Int))=true:=rfl
   have d4:decide ((0:Int)≤4∧(4:Int)<(([a,b,c,d,f].length:Nat):Int))=true:=rfl
   have w0:okAt [.flt .f32] (fls .f32 w) 0=true:=okAt_fls (by omega)
   have w1:okAt [.flt .f32] (fls .f32 w) 1=true:=okAt_fls (by omega)
   have q0:decide ((0:Int)≤0∧(0:Int)<(w.length:Int))=true:=decide_eq_true (by omega)
   have q1:decide ((0:Int)≤1∧(1:Int)<(w.length:Int))=true:=decide_eq_true (by omega)
   simp only[Ef.eff,show ((1:Int)==0)=false from rfl,beq_self_eq_true,br_t,br_f,g 0 (by decide),g 1 (by decide),g 2 (by decide),g 3 (by decide),g 4 (by decide),k0,k1,k2,k3,k4,d0,d1,d2,d3,d4,w0,w1,q0,q1,fAt_fls,Bool.and_self,gd_t,e1,bd_s,hs2]
   rfl
 | echo L p q =>
   have hL:1≤L∧L≤32:=he
   have hwL:w.length=L:=hwl
   have e1:=s_echo_loop (n+98) p q xs [] [] w (n+101) (by omega) (by omega) (by simp;omega) (by simp;omega) (by omega)
   have e1:f104.l0 (n+101) (n+101) xs.length (fls .f32 xs) [p,q].length (fls .f32 [p,q]) w.length (fls .f32 w) 0 (reps 0 [(T.flt .f32 0)]) 0=_:=e1
   simp only[Ef.eff,show ((2:Int)==0)=false from rfl,show ((2:Int)==1)=false from rfl,beq_self_eq_true,br_t,br_f,le_ble (show 0+w.length≤2147483648 by omega),gd_t,bd_s,Nat.zero_add,reps0,le_ble (show w.length≤2147483648 by omega)]
   rw[e1]
   simp only[bd_s,List.nil_append]
   rfl
 | squeeze a r t q =>
   have hw1:w.length=1:=hwl
   obtain ⟨u,hs2,hs⟩:=sim_squeeze a r t q xs w hw1
   have e1:=s_squeezed (n+96) a r (w.getD 0 0) t q xs hx hl (by omega)
   rw[hs] at e1
   have e1:f125 (n+101) a r (w.getD 0 0) t q xs.length (fls .f32 xs) xs.length (fls .f32 xs)=_:=e1
   have g (i:Nat) (hi:i<4):okAt [.flt .f32] (fls .f32 [a,r,t,q]) i=true:=okAt_fls (by simpa using hi)
   have k0:fAt (fls .f32 [a,r,t,q]) 0=a:=rfl
   have k1:fAt (fls .f32 [a,r,t,q]) 1=r:=rfl
   have k2:fAt (fls .f32 [a,r,t,q]) 2=t:=rfl
   have k3:fAt (fls .f32 [a,r,t,q]) 3=q:=rfl
   have d0:decide ((0:Int)≤0∧(0:Int)<(([a,r,t,q].length:Nat):Int))=true:=rfl
   have d1:decide ((0:Int)≤1∧(1:Int)<(([a,r,t,q].length:Nat):Int))=true:=rfl
   have d2:decide ((0:Int)≤2∧(2:Int)<(([a,r,t,q].length:Nat):Int))=true:=rfl
   have d3:decide ((0:Int)≤3∧(3:Int)<(([a,r,t,q].length:Nat):Int))=true:=rfl
   have w0:okAt [.flt .f32] (fls .f32 w) 0=true:=okAt_fls (by omega)
   have q0:decide ((0:Int)≤0∧(0:Int)<(w.length:Int))=true:=decide_eq_true (by omega)
   simp only[Ef.eff,show ((3:Int)==0)=false from rfl,show ((3:Int)==1)=false from rfl,show ((3:Int)==2)=false from rfl,beq_self_eq_true,br_t,br_f,g 0 (by decide),g 1 (by decide),g 2 (by decide),g 3 (by decide),k0,k1,k2,k3,d0,d1,d2,d3,w0,q0,Bool.and_self,gd_t]
   rw[fAt_fls]
   simp only[e1,bd_s,hs2]
   rfl
 | clip g =>
   obtain rfl:w=[]:=List.length_eq_zero_iff.1 hwl
   have e1:=s_clips (n+96) g xs hx hl (by omega)
   have e1:f126 (n+101) xs.length (fls .f32 xs) g=_:=e1
   have g1:decide ((0:Int)≤0∧(0:Int)<(([g].length:Nat):Int))=true:=rfl
   have g2:okAt [.flt .f32] (fls .f32 [g]) 0=true:=rfl
   have g3:fAt (fls .f32 [g]) 0=g:=rfl
   have hs:scan (Ef.clip g).step [] xs=(xs.map (clipM g),[]):=scan_pure (clipM g) xs
   simp only[Ef.eff,show ((4:Int)==0)=false from rfl,show ((4:Int)==1)=false from rfl,show ((4:Int)==2)=false from rfl,show ((4:Int)==3)=false from rfl,beq_self_eq_true,br_t,br_f,g1,g2,g3,Bool.and_self,gd_t,e1,bd_s,hs,List.length_map]
   rfl
 | bend =>
   obtain rfl:w=[]:=List.length_eq_zero_iff.1 hwl
   have e1:=s_bends_loop (n+100) xs [] [] (n+101) (by simp;omega) (by simp;omega) (by omega)
   have e1:f104.l1 (n+101) (n+101) xs.length (fls .f32 xs) 0 (reps 0 [(T.flt .f32 0)]) 0=_:=e1
   have hs:scan Ef.bend.step [] xs=(xs.map bendM,[]):=scan_pure bendM xs
   simp only[Ef.eff,show ((5:Int)==0)=false from rfl,show ((5:Int)==1)=false from rfl,show ((5:Int)==2)=false from rfl,show ((5:Int)==3)=false from rfl,show ((5:Int)==4)=false from rfl,beq_self_eq_true,br_t,br_f,e1,bd_s,hs]
   rfl
 | lim A k r =>
   have hA:A≤32∧W32 k∧(fin32 k&&fgt .f32 k 0)=true:=he
   have hwA:w.length=A+1:=hwl
   obtain ⟨gg,v,hs2,hs⟩:=sim_lim A k r xs w hwA
   have hk:=hA.2.2
   have e1:=s_runlimiter n k r (w.getD 0 0) (w.drop 1) xs hA.2.1 hk (w32_at hww 0) (fun y hy=>hww y (List.mem_of_mem_drop hy)) (by simp;omega) hx hl (by omega)
   rw[hs,List.length_drop] at e1
   have hfit:=run_fit (e:=.lim A k r) he xs ⟨hwl,hww⟩ hx
   have hv:v.length=A:=by
    have h1:(scan (Ef.lim A k r).step w xs).2.length=A+1:=hfit.2.1
    rw[hs2] at h1
    simpa using h1
   have g1:decide ((0:Int)≤0∧(0:Int)<(([k,r].length:Nat):Int))=true:=rfl
   have g2:okAt [.flt .f32] (fls .f32 [k,r]) 0=true:=rfl
   have g3:fAt (fls .f32 [k,r]) 0=k:=rfl
   have g4:decide ((0:Int)≤1∧(1:Int)<(([k,r].length:Nat):Int))=true:=rfl
   have g5:okAt [.flt .f32] (fls .f32 [k,r]) 1=true:=rfl
   have g6:fAt (fls .f32 [k,r]) 1=r:=rfl
   have w0:okAt [.flt .f32] (fls .f32 w) 0=true:=okAt_fls (by omega)
   have q0:decide ((0:Int)≤0∧(0:Int)<(w.length:Int))=true:=decide_eq_true (by omega)
   have q1:decide ((0:Int)≤1∧(1:Int)≤(w.length:Int)∧(w.length:Int)≤(w.length:Int))=true:=decide_eq_true (by omega)
   have b1:Nat.ble (1+v.length) 2147483648=true:=by rw[Nat.ble_eq];omega
   simp only[Ef.eff,show ((6:Int)==0)=false from rfl,show ((6:Int)==1)=false from rfl,show ((6:Int)==2)=false from rfl,show ((6:Int)==3)=false from rfl,show ((6:Int)==4)=false from rfl,show ((6:Int)==5)=false from rfl,br_f,g1,g2,g3,g4,g5,g6,w0,q0,q1,Bool.and_self,gd_t,drop_one]
   rw[fAt_fls]
   simp only[e1,bd_s,b1,gd_t,hs2]
   rw[Nat.add_comm 1 v.length]
   rfl
theorem s_chain_loop2 (n:Nat) (hn:600<n) (es:List Ef) (hle:es.length≤100) (ho:∀ e∈es,e.Ok) (ls:List (List Nat)) (hf:Fits es ls):∀ (j i m:Nat) (P:List (List Nat)) (xs:List Nat),i+j=es.length→P.length≤i→AllW xs→xs.length≤256→j<m →
  f66.l0 (n+102) m es.length (effs (effL es)) ls.length (ls.map rwF) xs.length (fls .f32 xs) P.length (P.map rwF) (i:Int) =
   some ((chainGo (es.drop i) (ls.drop i) xs).1.length,fls .f32 (chainGo (es.drop i) (ls.drop i) xs).1,(P++(chainGo (es.drop i) (ls.drop i) xs).2).length,(P++(chainGo (es.drop i) (ls.drop i) xs).2).map rwF):=by
 have hlen:=hf.len
 intro j
 induction j with
 | zero =>
   intro i m P xs hi hP hx hl hm
   obtain ⟨m,rfl⟩:∃ k,m=k+1:=⟨m - 1,by omega⟩
   rw[f66.l0,nlt_dec (by omega),List.drop_eq_nil_of_le (show es.length≤i by omega),List.drop_eq_nil_of_le (show ls.length≤i by omega)]
   simp only[br_f,chainGo,List.append_nil]
 | succ j ih =>
   intro i m P xs hi hP hx hl hm
   obtain ⟨m,rfl⟩:∃ k,m=k+1:=⟨m - 1,by omega⟩
   have h:i<es.length:=by omega
   have he:i<(effL es).length:=by rw[effL_length];exact h
   have hil:i<ls.length:=by omega
   have hO:=ho _ (efAt_mem h)
   have hF:=hf.at i h
   have e1:=s_effects n hO hF hx hl hn
   obtain ⟨f1,f2⟩:=run_fit hO xs hF hx
   have l1:(scan (efAt es i).step (row ls i) xs).1.length=xs.length:=scan_length _ _ _
   have step:=ih (i+1) m (P++[(scan (efAt es i).step (row ls i) xs).2]) (scan (efAt es i).step (row ls i) xs).1 (by omega) (by simp;omega) f1 (by omega) (by omega)
   have hd:chainGo (es.drop i) (ls.drop i) xs=((chainGo (es.drop (i+1)) (ls.drop (i+1)) (scan (efAt es i).step (row ls i) xs).1).1,(scan (efAt es i).step (row ls i) xs).2::(chainGo (es.drop (i+1)) (ls.drop (i+1)) (scan (efAt es i).step (row ls i) xs).1).2):=by
    rw[ef_drop h,row_drop hil];rfl
   have hp:=push_rw P (scan (efAt es i).step (row ls i) xs).2
   rw[f66.l0,lt_dec h,in_dec h,in_dec hil,Int.toNat_natCast,okE he,okR hil]
   simp only[br_t,Bool.and_self,gd_t,kE he,gE he,nE he,lE he,effL_at h,nR hil,lR hil,e1,bd_s,push_ok (show P.length<2147483648 by omega),hp,wrap_succ (show i<9223372036854775807 by omega)]
   rw[push_len (z:=(scan (efAt es i).step (row ls i) xs).2),step,hd]
   simp
theorem s_runchain (n:Nat) (hn:600<n) (es:List Ef) (hle:es.length≤100) (ho:∀ e∈es,e.Ok) (ls:List (List Nat)) (hf:Fits es ls) (xs:List Nat) (hx:AllW xs) (hl:xs.length≤256) :
  f66 (n+103) es.length (effs (effL es)) ls.length (ls.map rwF) xs.length (fls .f32 xs) =
   some ((chainGo es ls xs).1.length,fls .f32 (chainGo es ls xs).1,(chainGo es ls xs).2.length,(chainGo es ls xs).2.map rwF):=by
 have e1:=s_chain_loop2 n hn es hle ho ls hf es.length 0 (n+102) [] xs (by omega) (by simp) hx hl (by omega)
 have e1:f66.l0 (n+102) (n+102) es.length (effs (effL es)) ls.length (ls.map rwF) xs.length (fls .f32 xs) 0 (reps 0 [(T.lst 0 [])]) 0=_:=e1
 rw[f66,le_ble (show 0+xs.length≤2147483648 by omega)]
 simp only[gd_t,Nat.zero_add,reps0,e1,bd_s,List.drop_zero,List.nil_append]
def effB (e:Eff):Bool :=
 if e.kind=0∨e.kind=4 then decide (e.len=0∧e.nums.length=1)
 else if e.kind=1 then decide (e.len=0∧e.nums.length=5)
 else if e.kind=2 then decide ((1≤e.len∧e.len≤32)∧e.nums.length=2)
 else if e.kind=3 then decide (e.len=0∧e.nums.length=4)
 else if e.kind=5 then decide (e.len=0∧e.nums.length=0)
 else if e.kind=6 then decide ((0≤e.len∧e.len≤32)∧e.nums.length=2)&&(fin32 (e.nums.getD 0 0)&&fgt .f32 (e.nums.getD 0 0) 0)
 else false
theorem i_hasB (n:Nat) (a b:Int) (c:Nat) (l:List T) (lo hi k:Int):f144 (n+2) a b c l lo hi k=some (decide (lo≤b∧b≤hi)&&((c:Int)==k)):=by
 rw[f144,i_in]
 simp only[bd_s]
 cases decide (lo≤b∧b≤hi) <;>rfl
theorem kind_cases (k:Int):k=0∨k=1∨k=2∨k=3∨k=4∨k=5∨k=6∨((k==0)=false∧(k==1)=false∧(k==2)=false∧(k==3)=false∧(k==4)=false∧(k==5)=false∧(k==6)=false):=by
 simp only[beq_eq_false_iff_ne];omega
theorem has_dec (b:Int) (c:Nat) (k:Nat):(decide ((0:Int)≤b∧b≤0)&&((c:Int)==(k:Int)))=decide (b=0∧c=k):=by
 rw[Bool.eq_iff_iff];simp;omega
theorem i_effB (n:Nat) (e:Eff):f115 (n+4) e.kind e.len e.nums.length (fls .f32 e.nums)=some (effB e):=by
 obtain ⟨k,b,l⟩:=e
 rw[f115]
 unfold effB
 simp only[i_hasB (n+1)]
 rcases kind_cases k with rfl | rfl | rfl | rfl | rfl | rfl | rfl | ⟨h0,h1,h2,h3,h4,h5,h6⟩
 ·have:=has_dec b l.length 1
  simp only[beq_self_eq_true,br_t,bd_s]
  rw[show ((1:Nat):Int)=1 from rfl] at this
  rw[this];rfl
 ·have:=has_dec b l.length 5
  simp only[show ((1:Int)==0)=false from rfl,show ((1:Int)==4)=false from rfl,beq_self_eq_true,br_t,br_f,bd_s]
  rw[show ((5:Nat):Int)=5 from rfl] at this
  rw[this];rfl
 ·simp only[show ((2:Int)==0)=false from rfl,show ((2:Int)==4)=false from rfl,show ((2:Int)==1)=false from rfl,beq_self_eq_true,br_t,br_f,bd_s]
  congr 1
  rw[if_neg (by decide),if_neg (by decide),if_pos trivial,Bool.eq_iff_iff];simp;omega
 ·have:=has_dec b l.length 4
  simp only[show ((3:Int)==0)=false from rfl,show ((3:Int)==4)=false from rfl,show ((3:Int)==1)=false from rfl,show ((3:Int)==2)=false from rfl,beq_self_eq_true,br_t,br_f,bd_s]
  rw[show ((4:Nat):Int)=4 from rfl] at this
  rw[this];rfl
 ·have:=has_dec b l.length 1
  simp only[show ((4:Int)==0)=false from rfl,beq_self_eq_true,br_t,br_f,bd_s]
  rw[show ((1:Nat):Int)=1 from rfl] at this
  rw[this];rfl
 ·have:=has_dec b l.length 0
  simp only[show ((5:Int)==0)=false from rfl,show ((5:Int)==4)=false from rfl,show ((5:Int)==1)=false from rfl,show ((5:Int)==2)=false from rfl,show ((5:Int)==3)=false from rfl,beq_self_eq_true,br_t,br_f,bd_s]
  rw[show ((0:Nat):Int)=0 from rfl] at this
  rw[this];rfl
 ·simp only[show ((6:Int)==0)=false from rfl,show ((6:Int)==4)=false from rfl,show ((6:Int)==1)=false from rfl,show ((6:Int)==2)=false from rfl,show ((6:Int)==3)=false from rfl,show ((6:Int)==5)=false from rfl,beq_self_eq_true,br_t,br_f,bd_s]
  rw[if_neg (by decide),if_neg (by decide),if_neg (by decide),if_neg (by decide),if_neg (by decide),if_pos trivial]
  by_cases hv:(0≤b∧b≤32)∧l.length=2
  ·rw[decide_eq_true hv.1,decide_eq_true hv,show (((l.length:Nat):Int)==2)=true by rw[hv.2];rfl,decide_eq_true (show (0:Int)≤0∧(0:Int)<((l.length:Nat):Int) by omega),okAt_fls (by omega)]
   simp only[Bool.and_self,br_t,gd_t,i_islimit,bd_s,fAt_fls,Bool.true_and]
  ·rw[decide_eq_false hv]
   have:(decide (0≤b∧b≤32)&&(((l.length:Nat):Int)==2))=false:=by
    rw[Bool.eq_false_iff];intro h;apply hv;simp at h;omega
   rw[this];rfl
 ·simp only[h0,h1,h2,h3,h4,h5,h6,br_f]
  simp only[beq_eq_false_iff_ne] at h0 h1 h2 h3 h4 h5 h6
  rw[if_neg (by simp[h0,h4]),if_neg h1,if_neg h2,if_neg h3,if_neg h5,if_neg h6]
theorem s_effB (n:Nat) (e:Eff):f102 (n+4) e.kind e.len e.nums.length (fls .f32 e.nums)=some (effB e):=by
 obtain ⟨k,b,l⟩:=e
 rw[f102]
 unfold effB
 simp only[s_in (n+2)]
 have cut:∀ (lo hi:Int) (c d:Int) (v:Option Bool),f105 (n+3) k b=some (c,d) →
   (bd (some (decide (lo≤b∧b≤hi))) fun r=>br (!r) (some false) (bd (f105 (n+3) k b) fun r7=>br (((l.length:Nat):Int)==r7.1) v (some false)))=br (decide (lo≤b∧b≤hi)&&(((l.length:Nat):Int)==c)) v (some false):=by
  intro lo hi c d v h
  rw[h]
  simp only[bd_s]
  cases decide (lo≤b∧b≤hi) <;>rfl
 rcases kind_cases k with rfl | rfl | rfl | rfl | rfl | rfl | rfl | ⟨h0,h1,h2,h3,h4,h5,h6⟩
 ·have c:=cut 0 0 1 0 (some true) (by rw[f105];rfl)
  have:=has_dec b l.length 1
  rw[show ((1:Nat):Int)=1 from rfl] at this
  simp only[show ((0:Int)==2)=false from rfl,show ((0:Int)==6)=false from rfl,br_f,show ((0:Int) != 6)=true from rfl,br_t]
  refine c.trans ?_
  rw[this]
  show br (decide (b=0∧l.length=1)) (some true) (some false)=some (decide (b=0∧l.length=1))
  cases decide (b=0∧l.length=1) <;>rfl
 ·have c:=cut 0 0 5 2 (some true) (by rw[f105];rfl)
  have:=has_dec b l.length 5
  rw[show ((5:Nat):Int)=5 from rfl] at this
  simp only[show ((1:Int)==2)=false from rfl,show ((1:Int)==6)=false from rfl,br_f,show ((1:Int) != 6)=true from rfl,br_t]
  refine c.trans ?_
  rw[this]
  show br (decide (b=0∧l.length=5)) (some true) (some false)=some (decide (b=0∧l.length=5))
  cases decide (b=0∧l.length=5) <;>rfl
 ·have c:=cut 1 32 2 b (some true) (by rw[f105];rfl)
  simp only[beq_self_eq_true,show ((2:Int)==6)=false from rfl,br_f,show ((2:Int) != 6)=true from rfl,br_t]
  refine c.trans ?_
  have e:(decide (1≤b∧b≤32)&&(((l.length:Nat):Int)==2))=decide ((1≤b∧b≤32)∧l.length=2):=by rw[Bool.eq_iff_iff];simp;omega
  rw[e,if_neg (by decide),if_neg (by decide),if_pos trivial]
  cases decide ((1≤b∧b≤32)∧l.length=2) <;>rfl
 ·have c:=cut 0 0 4 1 (some true) (by rw[f105];rfl)
  have:=has_dec b l.length 4
  rw[show ((4:Nat):Int)=4 from rfl] at this
  simp only[show ((3:Int)==2)=false from rfl,show ((3:Int)==6)=false from rfl,br_f,show ((3:Int) != 6)=true from rfl,br_t]
  refine c.trans ?_
  rw[this]
  show br (decide (b=0∧l.length=4)) (some true) (some false)=some (decide (b=0∧l.length=4))
  cases decide (b=0∧l.length=4) <;>rfl
 ·have c:=cut 0 0 1 0 (some true) (by rw[f105];rfl)
  have:=has_dec b l.length 1
  rw[show ((1:Nat):Int)=1 from rfl] at this
  simp only[show ((4:Int)==2)=false from rfl,show ((4:Int)==6)=false from rfl,br_f,show ((4:Int) != 6)=true from rfl,br_t]
  refine c.trans ?_
  rw[this]
  show br (decide (b=0∧l.length=1)) (some true) (some false)=some (decide (b=0∧l.length=1))
  cases decide (b=0∧l.length=1) <;>rfl
 ·have c:=cut 0 0 0 0 (some true) (by rw[f105];rfl)
  have:=has_dec b l.length 0
  rw[show ((0:Nat):Int)=0 from rfl] at this
  simp only[show ((5:Int)==2)=false from rfl,show ((5:Int)==6)=false from rfl,br_f,show ((5:Int) != 6)=true from rfl,br_t]
  refine c.trans ?_
  rw[this]
  show br (decide (b=0∧l.length=0)) (some true) (some false)=some (decide (b=0∧l.length=0))
  cases decide (b=0∧l.length=0) <;>rfl
 ·have c:=fun v=>cut 0 32 2 (IntKind.i64.wrap (1+b)) v (by rw[f105];rfl)
  simp only[show ((6:Int)==2)=false from rfl,beq_self_eq_true,br_f,show ((6:Int) != 6)=false from rfl,br_t]
  refine (c _).trans ?_
  have e:(decide (0≤b∧b≤32)&&(((l.length:Nat):Int)==2))=decide ((0≤b∧b≤32)∧l.length=2):=by rw[Bool.eq_iff_iff];simp;omega
  rw[e,if_neg (by decide),if_neg (by decide),if_neg (by decide),if_neg (by decide),if_neg (by decide),if_pos trivial]
  by_cases hv:(0≤b∧b≤32)∧l.length=2
  ·rw[decide_eq_true hv,decide_eq_true (show (0:Int)≤0∧(0:Int)<((l.length:Nat):Int) by omega),okAt_fls (by omega),s_limitB (n+1)]
   simp only[Bool.and_self,br_t,gd_t,bd_s,fAt_fls,Bool.true_and]
  ·rw[decide_eq_false hv];rfl
 ·have hc:f105 (n+3) k b=some (-1,-1):=by
   rw[f105];simp only[h0,h1,h2,h3,h4,h5,h6,br_f]
  have c:=fun v=>cut 0 0 (-1) (-1) v hc
  simp only[h2,h6,br_f]
  refine (c _).trans ?_
  simp only[beq_eq_false_iff_ne] at h0 h1 h2 h3 h4 h5 h6
  rw[if_neg (by simp[h0,h4]),if_neg h1,if_neg h2,if_neg h3,if_neg h5,if_neg h6,show (((l.length:Nat):Int) == -1)=false by rw[beq_eq_false_iff_ne];omega,Bool.and_false]
  rfl
def GoodE (e:Eff):Prop:=GoodI .i64 e.kind∧GoodI .i64 e.len∧(∀ x∈e.nums,W32 x)
theorem ef_of {e:Eff} (h:effB e=true) (hw:∀ x∈e.nums,W32 x):∃ f:Ef,f.Ok∧f.eff=e:=by
 obtain ⟨k,b,l⟩:=e
 unfold effB at h
 simp only at h hw
 split at h
 ·rename_i hk
  simp only[decide_eq_true_eq] at h
  obtain ⟨rfl,hl⟩:=h
  match l,hl with
  | [g],_ =>
    rcases hk with rfl | rfl
    ·exact ⟨.scale g,trivial,rfl⟩
    ·exact ⟨.clip g,hw g (by simp),rfl⟩
 ·split at h
  ·rename_i _ hk
   subst hk
   simp only[decide_eq_true_eq] at h
   obtain ⟨rfl,hl⟩:=h
   match l,hl with
   | [a,b,c,d,e],_=>exact ⟨.filt a b c d e,trivial,rfl⟩
  ·split at h
   ·rename_i _ _ hk
    subst hk
    simp only[decide_eq_true_eq] at h
    obtain ⟨⟨h1,h2⟩,hl⟩:=h
    obtain ⟨L,rfl⟩:=Int.eq_ofNat_of_zero_le (show 0≤b by omega)
    match l,hl with
    | [p,q],_=>exact ⟨.echo L p q,⟨by omega,by omega⟩,rfl⟩
   ·split at h
    ·rename_i _ _ _ hk
     subst hk
     simp only[decide_eq_true_eq] at h
     obtain ⟨rfl,hl⟩:=h
     match l,hl with
     | [a,b,c,d],_=>exact ⟨.squeeze a b c d,trivial,rfl⟩
    ·split at h
     ·rename_i _ _ _ _ hk
      subst hk
      simp only[decide_eq_true_eq] at h
      obtain ⟨rfl,hl⟩:=h
      match l,hl with
      | [],_=>exact ⟨.bend,trivial,rfl⟩
     ·split at h
      ·rename_i _ _ _ _ _ hk
       subst hk
       rw[Bool.and_eq_true,decide_eq_true_eq] at h
       obtain ⟨⟨⟨h1,h2⟩,hl⟩,hlim⟩:=h
       obtain ⟨A,rfl⟩:=Int.eq_ofNat_of_zero_le h1
       match l,hl with
       | [p,q],_=>exact ⟨.lim A p q,⟨by omega,hw p (by simp),hlim⟩,rfl⟩
      ·cases h
def chainB (cs:List Eff):Bool:=decide (cs.length≤8)&&cs.all effB
theorem efs_of:∀ {cs:List Eff},cs.all effB=true→(∀ e∈cs,GoodE e)→∃ es:List Ef,effL es=cs∧∀ e∈es,e.Ok
 | [],_,_=>⟨[],rfl,by simp⟩
 | c::cs,h,hw=>by
   simp only[List.all_cons,Bool.and_eq_true] at h
   obtain ⟨f,h1,h2⟩:=ef_of h.1 (hw c (by simp)).2.2
   obtain ⟨es,h3,h4⟩:=efs_of h.2 (fun e he=>hw e (by simp[he]))
   refine ⟨f::es,by simp[effL] at h3 ⊢;exact ⟨h2,h3⟩,fun e he => ?_⟩
   rcases List.mem_cons.1 he with rfl | he
   ·exact h1
   ·exact h4 e he
theorem all_drop {cs:List Eff} {i:Nat} (h:i<cs.length):(cs.drop i).all effB=(effB (eAt cs i)&&(cs.drop (i+1)).all effB):=by
 rw[eff_drop h,List.all_cons]
theorem i_chainB_loop (n:Nat) (N:Nat) (ts:List T) (cs:List Eff) (hl:cs.length≤100):∀ (j i m:Nat),i+j=cs.length→j<m →
  f88.l0 (n+4) m N ts cs.length (effs cs) (cs.length:Int) (i:Int)=some (if (cs.drop i).all effB then Sum.inr () else Sum.inl false):=by
 intro j
 induction j with
 | zero =>
   intro i m hi hm
   obtain ⟨m,rfl⟩:∃ k,m=k+1:=⟨m - 1,by omega⟩
   rw[f88.l0,nlt_dec (by omega),List.drop_eq_nil_of_le (by omega)];rfl
 | succ j ih =>
   intro i m hi hm
   obtain ⟨m,rfl⟩:∃ k,m=k+1:=⟨m - 1,by omega⟩
   have h:i<cs.length:=by omega
   rw[f88.l0,lt_dec h,in_dec h,Int.toNat_natCast,okE h,all_drop h]
   simp only[br_t,Bool.and_self,gd_t,kE h,gE h,nE h,lE h,i_effB n (eAt cs i),bd_s,wrap_succ (show i<9223372036854775807 by omega)]
   cases effB (eAt cs i)
   ·rfl
   ·simp only[Bool.not_true,br_f,Bool.true_and]
    exact ih (i+1) m (by omega) (by omega)
theorem i_chainB (n:Nat) (cs:List Eff) (hn:100<n):f88 (n+5) cs.length (effs cs)=some (chainB cs):=by
 rw[f88]
 unfold chainB
 by_cases h:cs.length≤8
 ·have e:=i_chainB_loop n cs.length (effs cs) cs (by omega) cs.length 0 (n+4) (by omega) (by omega)
  have e:f88.l0 (n+4) (n+4) cs.length (effs cs) cs.length (effs cs) (cs.length:Int) 0=_:=e
  rw[decide_eq_false (by omega),e,decide_eq_true h,List.drop_zero]
  cases cs.all effB <;>rfl
 ·rw[decide_eq_true (by omega),decide_eq_false h];rfl
theorem s_chainB_loop (n:Nat) (cs:List Eff) (hl:cs.length≤8):∀ (j i m:Nat),i+j=cs.length→j<m →
  f63.l0 (n+4) m cs.length (effs cs) (i:Int)=some (if (cs.drop i).all effB then Sum.inr (cs.length,effs cs) else Sum.inl false):=by
 intro j
 induction j with
 | zero =>
   intro i m hi hm
   obtain ⟨m,rfl⟩:∃ k,m=k+1:=⟨m - 1,by omega⟩
   rw[f63.l0,nlt_dec (by omega),List.drop_eq_nil_of_le (by omega)];rfl
 | succ j ih =>
   intro i m hi hm
   obtain ⟨m,rfl⟩:∃ k,m=k+1:=⟨m - 1,by omega⟩
   have h:i<cs.length:=by omega
   rw[f63.l0,lt_dec h,in_dec h,Int.toNat_natCast,okE h,all_drop h,decide_eq_true (show (cs.length:Int)≤8 by omega)]
   simp only[br_t,Bool.and_self,gd_t,kE h,gE h,nE h,lE h,s_effB n (eAt cs i),bd_s,wrap_succ (show i<9223372036854775807 by omega)]
   cases effB (eAt cs i)
   ·rfl
   ·simp only[Bool.not_true,br_f,Bool.true_and]
    exact ih (i+1) m (by omega) (by omega)
theorem s_chainB (n:Nat) (cs:List Eff) (hn:100<n):f63 (n+5) cs.length (effs cs)=some (chainB cs):=by
 rw[f63]
 unfold chainB
 by_cases h:cs.length≤8
 ·have e:=s_chainB_loop n cs h cs.length 0 (n+4) (by omega) (by omega)
  have e:f63.l0 (n+4) (n+4) cs.length (effs cs) 0=_:=e
  rw[e,decide_eq_true h,List.drop_zero]
  cases cs.all effB
  ·rfl
  ·simp only[if_true,bd_s,sm_r,Bool.true_and,decide_eq_true (show (cs.length:Int)≤8 by omega)]
 ·have e:f63.l0 (n+4) (n+4) cs.length (effs cs) 0=some (Sum.inr (cs.length,effs cs)):=by
   rw[show n+4=(n+3)+1 from rfl,f63.l0,decide_eq_true (show (0:Int)<(cs.length:Int) by omega),decide_eq_false (show ¬ (cs.length:Int)≤8 by omega)]
   rfl
  rw[e,decide_eq_false h]
  simp only[bd_s,sm_r,Bool.false_and,decide_eq_false (show ¬ (cs.length:Int)≤8 by omega)]
structure Strp where
 es:List Eff
 tn:Int
 pan:Nat
 mute:Bool
 solo:Bool
def stC (s:Strp):List T:=[.lst s.es.length (effs s.es),.int .i64 s.tn,.flt .f32 s.pan,.bool s.mute,.bool s.solo]
def strps (ss:List Strp):List T:=ss.flatMap stC
def sAt5 (ss:List Strp) (i:Nat):Strp:=ss.getD i ⟨[],0,0,false,false⟩
theorem st_get {c:Nat} (hc:c<5):∀ (ts:List Strp) (i:Nat),i<ts.length→(strps ts)[i * 5+c]?=(stC (sAt5 ts i))[c]?
 | [],i,h=>by simp at h
 | t::ts,0,_=>by
   show (stC t++strps ts)[0 * 5+c]?=_
   rw[List.getElem?_append_left (by simp[stC];omega),Nat.zero_mul,Nat.zero_add];rfl
 | t::ts,i+1,h=>by
   show (stC t++strps ts)[(i+1) * 5+c]?=_
   rw[List.getElem?_append_right (by simp[stC];omega),show (i+1) * 5+c - (stC t).length=i * 5+c by simp[stC];omega,st_get hc ts i (by simpa using h)]
   rfl
section
variable {ts:List Strp} {i:Nat} (h:i<ts.length)
include h
theorem okS5:okAt [.lst,.int .i64,.flt .f32,.bool,.bool] (strps ts) (i * 5+0)=true:=by
 have h0:=st_get (c:=0) (by decide) ts i h
 have h1:=st_get (c:=1) (by decide) ts i h
 have h2:=st_get (c:=2) (by decide) ts i h
 have h3:=st_get (c:=3) (by decide) ts i h
 have h4:=st_get (c:=4) (by decide) ts i h
 simp only[stC,List.getElem?_cons_zero,List.getElem?_cons_succ] at h0 h1 h2 h3 h4
 rw[Nat.add_zero] at h0
 simp[okAt,Nat.add_assoc,h0,h1,h2,h3,h4,isCK]
theorem nS5:nAt (strps ts) (i * 5+0)=(sAt5 ts i).es.length:=by unfold nAt;rw[st_get (c:=0) (by decide) ts i h];rfl
theorem lS5:lAt (strps ts) (i * 5+0)=effs (sAt5 ts i).es:=by unfold lAt;rw[st_get (c:=0) (by decide) ts i h];rfl
theorem tS5:iAt (strps ts) (i * 5+0+1)=(sAt5 ts i).tn:=by unfold iAt;rw[show i * 5+0+1=i * 5+1 from rfl,st_get (c:=1) (by decide) ts i h];rfl
theorem pS5:fAt (strps ts) (i * 5+0+1+1)=(sAt5 ts i).pan:=by unfold fAt;rw[show i * 5+0+1+1=i * 5+2 from rfl,st_get (c:=2) (by decide) ts i h];rfl
theorem mS5:bAt (strps ts) (i * 5+0+1+1+1)=(sAt5 ts i).mute:=by unfold bAt;rw[show i * 5+0+1+1+1=i * 5+3 from rfl,st_get (c:=3) (by decide) ts i h];rfl
theorem oS5:bAt (strps ts) (i * 5+0+1+1+1+1)=(sAt5 ts i).solo:=by unfold bAt;rw[show i * 5+0+1+1+1+1=i * 5+4 from rfl,st_get (c:=4) (by decide) ts i h];rfl
theorem st_drop:ts.drop i=sAt5 ts i::ts.drop (i+1):=by
 rw[List.drop_eq_getElem_cons h]
 simp[sAt5,List.getD,h]
theorem sAt5_mem:sAt5 ts i∈ts:=by
 have:sAt5 ts i=ts[i]:=by simp[sAt5,List.getD,h]
 rw[this];exact List.getElem_mem h
end
def panB (x:Nat):Bool:=fge .f32 x 0&&fle .f32 x 1065353216
def stB (s:Strp):Bool:=chainB s.es&&(decide (-2000≤s.tn∧s.tn≤2000)&&panB s.pan)
def clB (n:Nat) (c:Eff):Bool:=decide (0≤c.kind∧c.kind≤(n:Int) - 1)&&(decide (0≤c.len∧c.len≤256)&&decide (c.nums.length≤256))
def sessB (cl:List Eff) (ss:List Strp):Bool:=decide (1≤ss.length∧ss.length≤8)&&(decide (cl.length≤12)&&(ss.all stB&&cl.all (clB ss.length)))
theorem i_panB (n x:Nat):f90 (n+1) x=some (panB x):=by
 rw[f90];unfold panB;cases fge .f32 x 0 <;>rfl
theorem s_panB (n x:Nat):f103 (n+1) x=some (panB x):=by
 rw[f103];unfold panB;cases fge .f32 x 0 <;>rfl
theorem i_tenths (n:Nat) (t:Int):f89 (n+2) t=some (decide (-2000≤t∧t≤2000)):=by rw[f89,i_in];rfl
theorem i_count (n:Nat) (t:Int):f51 (n+2) t=some (decide (0≤t∧t≤256)):=by rw[f51,i_in];rfl
theorem i_index (n:Nat) (t:Int) (k:Nat) (hk:k≤1099511627776):f71 (n+2) t (k:Int)=some (decide (0≤t∧t≤(k:Int) - 1)):=by
 rw[f71,show IntKind.i64.wrap ((k:Int) - 1)=(k:Int) - 1 by rw[wrap64] <;>omega,i_in];rfl
theorem i_nodes (n:Nat) (t:Int):f87 (n+2) t=some (decide (1≤t∧t≤8)):=by rw[f87,i_in];rfl
theorem st_all {ss:List Strp} {i:Nat} (h:i<ss.length):(ss.drop i).all stB=(stB (sAt5 ss i)&&(ss.drop (i+1)).all stB):=by
 rw[st_drop h,List.all_cons]
theorem cl_all {cs:List Eff} {i n:Nat} (h:i<cs.length):(cs.drop i).all (clB n)=(clB n (eAt cs i)&&(cs.drop (i+1)).all (clB n)):=by
 rw[eff_drop h,List.all_cons]
theorem i_st_loop (n:Nat) (hn:100<n) (N:Nat) (ts:List T) (M:Nat) (us:List T) (ss:List Strp) (hl:ss.length≤100):∀ (j i m:Nat),i+j=ss.length→j<m →
  f50.l0 (n+5) m N ts M us ss.length (strps ss) (ss.length:Int) (i:Int)=some (if (ss.drop i).all stB then Sum.inr (N,ts,M,us) else Sum.inl false):=by
 intro j
 induction j with
 | zero =>
   intro i m hi hm
   obtain ⟨m,rfl⟩:∃ k,m=k+1:=⟨m - 1,by omega⟩
   rw[f50.l0,nlt_dec (by omega),List.drop_eq_nil_of_le (by omega)];rfl
 | succ j ih =>
   intro i m hi hm
   obtain ⟨m,rfl⟩:∃ k,m=k+1:=⟨m - 1,by omega⟩
   have h:i<ss.length:=by omega
   rw[f50.l0,lt_dec h,in_dec h,Int.toNat_natCast,okS5 h,st_all h]
   simp only[br_t,Bool.and_self,gd_t,nS5 h,lS5 h,tS5 h,pS5 h,i_chainB n (sAt5 ss i).es hn,i_tenths (n+3),i_panB (n+4),bd_s,wrap_succ (show i<9223372036854775807 by omega)]
   unfold stB
   cases chainB (sAt5 ss i).es
   ·rfl
   ·cases decide (-2000≤(sAt5 ss i).tn∧(sAt5 ss i).tn≤2000)
    ·rfl
    ·cases panB (sAt5 ss i).pan
     ·rfl
     ·simp only[Bool.not_true,br_f,Bool.true_and]
      exact ih (i+1) m (by omega) (by omega)
theorem i_cl_loop (n:Nat) (N:Nat) (ts:List T) (M:Nat) (us:List T) (hM:M≤1000) (cs:List Eff) (hl:cs.length≤100):∀ (j i m:Nat),i+j=cs.length→j<m →
  f50.l1 (n+2) m N ts M us cs.length (effs cs) (cs.length:Int) (i:Int)=some (if (cs.drop i).all (clB M) then Sum.inr () else Sum.inl false):=by
 intro j
 induction j with
 | zero =>
   intro i m hi hm
   obtain ⟨m,rfl⟩:∃ k,m=k+1:=⟨m - 1,by omega⟩
   rw[f50.l1,nlt_dec (by omega),List.drop_eq_nil_of_le (by omega)];rfl
 | succ j ih =>
   intro i m hi hm
   obtain ⟨m,rfl⟩:∃ k,m=k+1:=⟨m - 1,by omega⟩
   have h:i<cs.length:=by omega
   have e3:decide (((eAt cs i).nums.length:Int)≤256)=decide ((eAt cs i).nums.length≤256):=by rw[decide_eq_decide];omega
   rw[f50.l1,lt_dec h,in_dec h,Int.toNat_natCast,okE h,cl_all h]
   simp only[br_t,Bool.and_self,gd_t,kE h,gE h,nE h,lE h,i_index n (eAt cs i).kind M (by omega),i_count n,i_few,e3,bd_s,wrap_succ (show i<9223372036854775807 by omega)]
   unfold clB
   cases decide (0≤(eAt cs i).kind∧(eAt cs i).kind≤(M:Int) - 1)
   ·rfl
   ·cases decide (0≤(eAt cs i).len∧(eAt cs i).len≤256)
    ·rfl
    ·cases decide ((eAt cs i).nums.length≤256)
     ·rfl
     ·simp only[Bool.not_true,br_f,Bool.true_and]
      exact ih (i+1) m (by omega) (by omega)
theorem i_sessB (n:Nat) (cl:List Eff) (ss:List Strp) (hn:200<n):f50 (n+6) cl.length (effs cl) ss.length (strps ss)=some (sessB cl ss):=by
 rw[f50,i_sized (n+4)]
 simp only[bd_s,i_nodes (n+3)]
 unfold sessB
 by_cases h1:1≤ss.length∧ss.length≤8
 ·rw[decide_eq_true h1,decide_eq_true (show (1:Int)≤(ss.length:Int)∧(ss.length:Int)≤8 by omega)]
  by_cases h2:cl.length≤12
  ·rw[decide_eq_true h2,decide_eq_false (show ¬ (cl.length:Int)>12 by omega)]
   have e1:=i_st_loop n (by omega) cl.length (effs cl) ss.length (strps ss) ss (by omega) ss.length 0 (n+5) (by omega) (by omega)
   have e1:f50.l0 (n+5) (n+5) cl.length (effs cl) ss.length (strps ss) ss.length (strps ss) (ss.length:Int) 0=_:=e1
   have e2:=i_cl_loop (n+3) cl.length (effs cl) ss.length (strps ss) (by omega) cl (by omega) cl.length 0 (n+5) (by omega) (by omega)
   have e2:f50.l1 (n+5) (n+5) cl.length (effs cl) ss.length (strps ss) cl.length (effs cl) (cl.length:Int) 0=_:=e2
   simp only[Bool.not_true,br_f,e1,List.drop_zero,Bool.true_and]
   cases ss.all stB
   ·rfl
   ·simp only[if_true,bd_s,sm_r,e2,List.drop_zero,Bool.true_and]
    cases cl.all (clB ss.length) <;>rfl
  ·rw[decide_eq_false h2,decide_eq_true (show (cl.length:Int)>12 by omega)];rfl
 ·rw[decide_eq_false h1,decide_eq_false (show ¬ ((1:Int)≤(ss.length:Int)∧(ss.length:Int)≤8) by omega)];rfl
theorem s_strip1 (n:Nat) (a:Nat) (b:List T) (c:Int) (d:Nat) (e f:Bool) (g:Nat) (h:List T):∃ x y,f62 (n+1) a b c d e f g h=some (g,h,c,d,e,f,x,y):=by
 rw[f62];exact ⟨_,_,rfl⟩
theorem s_tracks1 (n:Nat) (hn:10<n) (c:Int) (d:Nat) (e f:Bool):f64 (n+2) 1 (setN (reps 1 [(T.lst 0 []),(T.int .i64 (0:Int)),(T.flt .f32 0),(T.bool false),(T.bool false)]) 0 [(T.lst 0 (reps 0 [(T.flt .f32 0)])),(T.int .i64 c),(T.flt .f32 d),(T.bool e),(T.bool f)])=some (decide (-2000≤c∧c≤2000)&&panB d):=by
 obtain ⟨n,rfl⟩:∃ k,n=k+2:=⟨n - 2,by omega⟩
 have hs:setN (reps 1 [(T.lst 0 []),(T.int .i64 (0:Int)),(T.flt .f32 0),(T.bool false),(T.bool false)]) 0 [(T.lst 0 (reps 0 [(T.flt .f32 0)])),(T.int .i64 c),(T.flt .f32 d),(T.bool e),(T.bool f)]=[(T.lst 0 []),(T.int .i64 c),(T.flt .f32 d),(T.bool e),(T.bool f)]:=rfl
 have l1:f64.l0 (n+2+1) (n+2+1) 1 [(T.lst 0 []),(T.int .i64 c),(T.flt .f32 d),(T.bool e),(T.bool f)] ((1:Nat):Int) 0=some (if decide (-2000≤c∧c≤2000)&&panB d then Sum.inr (1,[(T.lst 0 []),(T.int .i64 c),(T.flt .f32 d),(T.bool e),(T.bool f)]) else Sum.inl false):=by
  rw[f64.l0]
  have k0:decide ((0:Int)<((1:Nat):Int))=true:=rfl
  have k1:decide ((0:Int)≤0∧(0:Int)<((1:Nat):Int))=true:=rfl
  have k2:okAt [.lst,.int .i64,.flt .f32,.bool,.bool] [(T.lst 0 []),(T.int .i64 c),(T.flt .f32 d),(T.bool e),(T.bool f)] (Int.toNat 0 * 5+0)=true:=rfl
  have k3:nAt [(T.lst 0 []),(T.int .i64 c),(T.flt .f32 d),(T.bool e),(T.bool f)] (Int.toNat 0 * 5+0)=0:=rfl
  have k4:iAt [(T.lst 0 []),(T.int .i64 c),(T.flt .f32 d),(T.bool e),(T.bool f)] (Int.toNat 0 * 5+0+1)=c:=rfl
  have k5:fAt [(T.lst 0 []),(T.int .i64 c),(T.flt .f32 d),(T.bool e),(T.bool f)] (Int.toNat 0 * 5+0+1+1)=d:=rfl
  rw[k0,k1,k2,k3,k4,k5]
  simp only[br_t,Bool.and_self,gd_t,s_few,bd_s,s_in,s_panB]
  cases decide (-2000≤c∧c≤2000)
  ·rfl
  ·cases panB d
   ·rfl
   ·show f64.l0 (n+2+1) (n+2) 1 _ ((1:Nat):Int) 1=_
    rw[f64.l0];rfl
 rw[hs,f64,l1]
 cases decide (-2000≤c∧c≤2000)&&panB d <;>rfl
theorem s_st_loop (n:Nat) (hn:100<n) (N:Nat) (ts:List T) (i5:Int) (ss:List Strp) (hl:ss.length≤100):∀ (j i m:Nat),i+j=ss.length→j<m →
  f27.l0 (n+5) m N ts ss.length (strps ss) i5 (ss.length:Int) (i:Int)=some (if (ss.drop i).all stB then Sum.inr (N,ts,ss.length,strps ss,i5) else Sum.inl false):=by
 intro j
 induction j with
 | zero =>
   intro i m hi hm
   obtain ⟨m,rfl⟩:∃ k,m=k+1:=⟨m - 1,by omega⟩
   rw[f27.l0,nlt_dec (by omega),List.drop_eq_nil_of_le (by omega)];rfl
 | succ j ih =>
   intro i m hi hm
   obtain ⟨m,rfl⟩:∃ k,m=k+1:=⟨m - 1,by omega⟩
   have h:i<ss.length:=by omega
   rw[f27.l0,lt_dec h,in_dec h,Int.toNat_natCast,okS5 h,st_all h]
   simp only[br_t,Bool.and_self,gd_t,nS5 h,lS5 h,tS5 h,pS5 h,mS5 h,oS5 h]
   obtain ⟨x,y,e1⟩:=s_strip1 (n+4) (sAt5 ss i).es.length (effs (sAt5 ss i).es) (sAt5 ss i).tn (sAt5 ss i).pan (sAt5 ss i).mute (sAt5 ss i).solo 0 (reps 0 [(T.flt .f32 0)])
   rw[e1]
   have e2:=s_tracks1 (n+3) (by omega) (sAt5 ss i).tn (sAt5 ss i).pan (sAt5 ss i).mute (sAt5 ss i).solo
   simp only[bd_s,s_chainB n (sAt5 ss i).es hn,e2,wrap_succ (show i<9223372036854775807 by omega)]
   unfold stB
   cases chainB (sAt5 ss i).es
   ·rfl
   ·cases decide (-2000≤(sAt5 ss i).tn∧(sAt5 ss i).tn≤2000)&&panB (sAt5 ss i).pan
    ·rfl
    ·simp only[Bool.not_true,br_f,Bool.true_and]
     exact ih (i+1) m (by omega) (by omega)
theorem s_cl_loop (n:Nat) (N:Nat) (ts:List T) (M:Nat) (hM:M≤1000) (cs:List Eff) (hl:cs.length≤100):∀ (j i m:Nat),i+j=cs.length→j<m →
  f27.l1 (n+2) m cs.length (effs cs) N ts (M:Int) (cs.length:Int) (i:Int)=some (if (cs.drop i).all (clB M) then Sum.inr () else Sum.inl false):=by
 intro j
 induction j with
 | zero =>
   intro i m hi hm
   obtain ⟨m,rfl⟩:∃ k,m=k+1:=⟨m - 1,by omega⟩
   rw[f27.l1,nlt_dec (by omega),List.drop_eq_nil_of_le (by omega)];rfl
 | succ j ih =>
   intro i m hi hm
   obtain ⟨m,rfl⟩:∃ k,m=k+1:=⟨m - 1,by omega⟩
   have h:i<cs.length:=by omega
   have e3:decide (((eAt cs i).nums.length:Int)≤256)=decide ((eAt cs i).nums.length≤256):=by rw[decide_eq_decide];omega
   rw[f27.l1,lt_dec h,in_dec h,Int.toNat_natCast,okE h,cl_all h,show IntKind.i64.wrap ((M:Int) - 1)=(M:Int) - 1 by rw[wrap64] <;>omega]
   simp only[br_t,Bool.and_self,gd_t,kE h,gE h,nE h,lE h,s_in (n+1),s_few,e3,bd_s,wrap_succ (show i<9223372036854775807 by omega)]
   unfold clB
   cases decide (0≤(eAt cs i).kind∧(eAt cs i).kind≤(M:Int) - 1)
   ·rfl
   ·cases decide (0≤(eAt cs i).len∧(eAt cs i).len≤256)
    ·rfl
    ·cases decide ((eAt cs i).nums.length≤256)
     ·rfl
     ·simp only[Bool.not_true,br_f,Bool.true_and]
      exact ih (i+1) m (by omega) (by omega)
theorem s_sessB (n:Nat) (cl:List Eff) (ss:List Strp) (hn:200<n):f27 (n+6) cl.length (effs cl) ss.length (strps ss)=some (sessB cl ss):=by
 rw[f27]
 simp only[bd_s,s_in (n+4)]
 unfold sessB
 by_cases h1:1≤ss.length∧ss.length≤8
 ·rw[decide_eq_true h1,decide_eq_true (show (1:Int)≤(ss.length:Int)∧(ss.length:Int)≤8 by omega)]
  by_cases h2:cl.length≤12
  ·rw[decide_eq_true h2,decide_eq_false (show ¬ (cl.length:Int)>12 by omega)]
   have e1:=s_st_loop n (by omega) cl.length (effs cl) (ss.length:Int) ss (by omega) ss.length 0 (n+5) (by omega) (by omega)
   have e1:f27.l0 (n+5) (n+5) cl.length (effs cl) ss.length (strps ss) (ss.length:Int) (ss.length:Int) 0=_:=e1
   have e2:=s_cl_loop (n+3) ss.length (strps ss) ss.length (by omega) cl (by omega) cl.length 0 (n+5) (by omega) (by omega)
   have e2:f27.l1 (n+5) (n+5) cl.length (effs cl) ss.length (strps ss) (ss.length:Int) (cl.length:Int) 0=_:=e2
   simp only[Bool.not_true,br_f,e1,List.drop_zero,Bool.true_and]
   cases ss.all stB
   ·rfl
   ·simp only[if_true,bd_s,sm_r,e2,List.drop_zero,Bool.true_and]
    cases cl.all (clB ss.length) <;>rfl
  ·rw[decide_eq_false h2,decide_eq_true (show (cl.length:Int)>12 by omega)];rfl
 ·rw[decide_eq_false h1,decide_eq_false (show ¬ ((1:Int)≤(ss.length:Int)∧(ss.length:Int)≤8) by omega)];rfl
def addAt (p:Int) (x:Nat) (out:List Nat):List Nat:=if 0≤p∧p<(out.length:Int) then out.set p.toNat (fadd .f32 (out.getD p.toNat 0) x) else out
def addClip:Int→List Nat→List Nat→List Nat
 | _,[],out=>out
 | p,x::xs,out=>addClip (p+1) xs (addAt p x out)
def trackGo (track frm:Int):List Eff→List Nat→List Nat
 | [],out=>out
 | c::cs,out=>trackGo track frm cs (if c.kind=track then addClip (c.len - frm) c.nums out else out)
theorem addAt_length (p:Int) (x:Nat) (out:List Nat):(addAt p x out).length=out.length:=by unfold addAt;split <;>simp
theorem addClip_length:∀ (xs:List Nat) (p:Int) (out:List Nat),(addClip p xs out).length=out.length
 | [],_,_=>rfl
 | x::xs,p,out=>by rw[addClip,addClip_length xs,addAt_length]
theorem trackGo_length (track frm:Int):∀ (cs:List Eff) (out:List Nat),(trackGo track frm cs out).length=out.length
 | [],_=>rfl
 | c::cs,out=>by
   rw[trackGo,trackGo_length track frm cs]
   split
   ·rw[addClip_length]
   ·rfl
theorem addAt_w32 {p:Int} {x:Nat} {out:List Nat} (h:AllW out):AllW (addAt p x out):=by
 unfold addAt
 split
 ·intro y hy
  rcases List.mem_or_eq_of_mem_set hy with h' | rfl
  ·exact h y h'
  ·exact w32_fadd _ _
 ·exact h
theorem addClip_w32:∀ (xs:List Nat) (p:Int) (out:List Nat),AllW out→AllW (addClip p xs out)
 | [],_,_,h=>h
 | x::xs,p,out,h=>addClip_w32 xs _ _ (addAt_w32 h)
theorem trackGo_w32 (track frm:Int):∀ (cs:List Eff) (out:List Nat),AllW out→AllW (trackGo track frm cs out)
 | [],_,h=>h
 | c::cs,out,h=>by
   rw[trackGo]
   refine trackGo_w32 track frm cs _ ?_
   split
   ·exact addClip_w32 _ _ _ h
   ·exact h
theorem setN_flt {out:List Nat} {i y:Nat}:setN (fls .f32 out) i [T.flt .f32 y]=fls .f32 (out.set i y):=by rw[setN_one];simp[fls,List.map_set]
theorem i_samples_clip (n:Nat) (i1 i2:Int) (n4:Nat) (l5:List T) (n6:Nat) (l7:List T) (k:Nat) (i10:Int) (at_:Int) (n12:Nat) (l13:List T) (n14:Nat) (l15:List T) (i16 i17:Int) (hk:k≤100000) (ha : -10000000≤at_∧at_≤10000000) (hf : -10000000≤i2∧i2≤10000000) :
  ∀ (zs p out:List Nat) (m:Nat),out.length=k→p.length+zs.length<1048576→zs.length<m →
  f57.l1 (n+1) m i1 i2 (k:Int) n4 l5 n6 l7 k (fls .f32 out) i10 at_ n12 l13 n14 l15 i16 i17 (p++zs).length (fls .f32 (p++zs)) ((p++zs).length:Int) (p.length:Int) =
   some (i1,i2,(k:Int),n4,l5,n6,l7,k,fls .f32 (addClip (at_+(p.length:Int) - i2) zs out),n14,l15,i16,i17):=by
 intro zs
 induction zs with
 | nil =>
   intro p out m ho _ hm
   obtain ⟨m,rfl⟩:∃ k,m=k+1:=⟨m - 1,by simp at hm;omega⟩
   rw[f57.l1,lt_end];rfl
 | cons z zs ih =>
   intro p out m ho hp hm
   obtain ⟨m,rfl⟩:∃ k,m=k+1:=⟨m - 1,by simp at hm;omega⟩
   have hp':p.length<1048576:=by simp at hp;omega
   have w1:IntKind.i64.wrap (IntKind.i64.wrap (at_+(p.length:Int)) - i2)=at_+(p.length:Int) - i2:=by
    rw[wrap64 (x:=at_+(p.length:Int)) (by omega) (by omega),wrap64 (by omega) (by omega)]
   have w2:IntKind.i64.wrap ((k:Int) - 1)=(k:Int) - 1:=by rw[wrap64] <;>omega
   have w' :=wrap_len (z:=z) (p:=p) (show p.length<4611686018427387904 by omega)
   rw[f57.l1,lt_mid,in_mid,toNat_len,okAt_mid,fAt_mid]
   simp only[br_t,gd_t,Bool.and_self,w1,w2,i_in,bd_s,w']
   have hq:at_+((p++[z]).length:Int) - i2=at_+(p.length:Int) - i2+1:=by simp;omega
   rw[addClip]
   by_cases hc:0≤at_+(p.length:Int) - i2∧at_+(p.length:Int) - i2≤(k:Int) - 1
   ·obtain ⟨q,hq2⟩:=Int.eq_ofNat_of_zero_le hc.1
    have hqk:q<out.length:=by omega
    have step:=ih (p++[z]) (addAt (at_+(p.length:Int) - i2) z out) m (by rw[addAt_length];exact ho) (by simp at hp ⊢;omega) (by simp at hm;omega)
    rw[hq] at step
    have hadd:addAt (at_+(p.length:Int) - i2) z out=out.set q (fadd .f32 (out.getD q 0) z):=by
     unfold addAt;rw[hq2,if_pos (by omega)];rfl
    rw[hadd] at step ⊢
    rw[decide_eq_true hc,hq2] at *
    have g1:decide ((0:Int)≤(q:Int)∧(q:Int)<(k:Int))=true:=decide_eq_true (by omega)
    have g2:okAt [.flt .f32] (fls .f32 out) q=true:=okAt_fls hqk
    have g3:Nat.ble (q+1) (fls .f32 out).length=true:=by rw[fls_length];exact le_ble (by omega)
    simp only[br_t,g1,gd_t,Int.toNat_natCast,g2,g3,fAt_fls,setN_flt]
    simpa using step
   ·have step:=ih (p++[z]) (addAt (at_+(p.length:Int) - i2) z out) m (by rw[addAt_length];exact ho) (by simp at hp ⊢;omega) (by simp at hm;omega)
    have hadd:addAt (at_+(p.length:Int) - i2) z out=out:=by unfold addAt;rw[if_neg (by omega)]
    rw[hadd,hq] at step
    rw[hadd,decide_eq_false hc,br_f]
    simpa using step
theorem i_samples_loop (n:Nat) (track frm:Int) (N:Nat) (ts:List T) (M:Nat) (us:List T) (k:Nat) (hk:k≤100000) (hf : -10000000≤frm∧frm≤10000000) (cs:List Eff) (hl:cs.length≤100) (hcl:∀ c∈cs,(0≤c.len∧c.len≤256)∧c.nums.length≤256) (hn:300<n):∀ (j i m:Nat) (out:List Nat),i+j=cs.length→out.length=k→j<m →
  f57.l0 (n+1) m track frm (k:Int) N ts M us k (fls .f32 out) cs.length (effs cs) (cs.length:Int) (i:Int)=some (k,fls .f32 (trackGo track frm (cs.drop i) out)):=by
 intro j
 induction j with
 | zero =>
   intro i m out hi ho hm
   obtain ⟨m,rfl⟩:∃ k,m=k+1:=⟨m - 1,by omega⟩
   rw[f57.l0,nlt_dec (by omega),List.drop_eq_nil_of_le (by omega)];rfl
 | succ j ih =>
   intro i m out hi ho hm
   obtain ⟨m,rfl⟩:∃ k,m=k+1:=⟨m - 1,by omega⟩
   have h:i<cs.length:=by omega
   obtain ⟨c1,c2⟩:=hcl _ (eAt_mem h)
   rw[f57.l0,lt_dec h,in_dec h,Int.toNat_natCast,okE h,eff_drop h,trackGo]
   simp only[br_t,Bool.and_self,gd_t,kE h,gE h,nE h,lE h,bd_s,wrap_succ (show i<9223372036854775807 by omega)]
   by_cases hc:(eAt cs i).kind=track
   ·have e:=i_samples_clip n track frm N ts M us k (eAt cs i).kind (eAt cs i).len (eAt cs i).nums.length (fls .f32 (eAt cs i).nums) cs.length (effs cs) (cs.length:Int) (i:Int) hk (by omega) hf (eAt cs i).nums [] out (n+1) ho (by simp;omega) (by omega)
    have e:f57.l1 (n+1) (n+1) track frm (k:Int) N ts M us k (fls .f32 out) (eAt cs i).kind (eAt cs i).len (eAt cs i).nums.length (fls .f32 (eAt cs i).nums) cs.length (effs cs) (cs.length:Int) (i:Int) (eAt cs i).nums.length (fls .f32 (eAt cs i).nums) ((eAt cs i).nums.length:Int) 0=_:=e
    rw[show ((eAt cs i).kind != track)=false by simp[hc],if_pos hc]
    simp only[br_f,e,bd_s,List.length_nil,Int.natCast_zero,Int.add_zero,wrap_succ (show i<9223372036854775807 by omega)]
    exact ih (i+1) m _ (by omega) (by rw[addClip_length];exact ho) (by omega)
   ·rw[show ((eAt cs i).kind != track)=true by simp[hc],if_neg hc]
    simp only[br_t]
    exact ih (i+1) m out (by omega) ho (by omega)
theorem i_samples (n:Nat) (cs:List Eff) (M:Nat) (us:List T) (track frm:Int) (k:Nat) (hk:k≤100000) (hf : -10000000≤frm∧frm≤10000000) (hl:cs.length≤100) (hcl:∀ c∈cs,(0≤c.len∧c.len≤256)∧c.nums.length≤256) (hn:300<n) :
  f57 (n+2) cs.length (effs cs) M us track frm (k:Int)=some (k,fls .f32 (trackGo track frm cs (List.replicate k 0))):=by
 have e:=i_samples_loop n track frm cs.length (effs cs) M us k hk hf cs hl hcl hn cs.length 0 (n+1) (List.replicate k 0) (by omega) (by simp) (by omega)
 have e:f57.l0 (n+1) (n+1) track frm (k:Int) cs.length (effs cs) M us k (fls .f32 (List.replicate k 0)) cs.length (effs cs) (cs.length:Int) 0=_:=e
 rw[f57,i_zeroed n k (by omega)]
 simp only[bd_s,e,List.drop_zero]
theorem s_samples_clip (n:Nat) (N:Nat) (ts:List T) (M:Nat) (us:List T) (track:Int) (k:Nat) (i9 at_:Int) (i13 i14:Int) (hk:k≤100000) (ha:0≤at_∧at_≤10000000) :
  ∀ (zs p out:List Nat) (m:Nat),out.length=k→p.length+zs.length<1048576→zs.length<m →
  f68.l1 n m N ts M us track (k:Int) k (fls .f32 out) i9 at_ (p++zs).length (fls .f32 (p++zs)) i13 i14 ((p++zs).length:Int) (p.length:Int) =
   some (N,ts,M,us,track,(k:Int),k,fls .f32 (addClip (at_+(p.length:Int)) zs out),i13,i14):=by
 intro zs
 induction zs with
 | nil =>
   intro p out m ho _ hm
   obtain ⟨m,rfl⟩:∃ k,m=k+1:=⟨m - 1,by simp at hm;omega⟩
   rw[f68.l1,lt_end];rfl
 | cons z zs ih =>
   intro p out m ho hp hm
   obtain ⟨m,rfl⟩:∃ k,m=k+1:=⟨m - 1,by simp at hm;omega⟩
   have hp':p.length<1048576:=by simp at hp;omega
   have w1:IntKind.i64.wrap (at_+(p.length:Int))=at_+(p.length:Int):=by rw[wrap64] <;>omega
   have w' :=wrap_len (z:=z) (p:=p) (show p.length<4611686018427387904 by omega)
   rw[f68.l1,lt_mid,in_mid,toNat_len,okAt_mid,fAt_mid]
   simp only[br_t,gd_t,Bool.and_self,w1,bd_s,w']
   have hq:at_+((p++[z]).length:Int)=at_+(p.length:Int)+1:=by simp;omega
   rw[addClip]
   by_cases hc:at_+(p.length:Int)<(k:Int)
   ·obtain ⟨q,hq2⟩:=Int.eq_ofNat_of_zero_le (show 0≤at_+(p.length:Int) by omega)
    have hqk:q<out.length:=by omega
    have step:=ih (p++[z]) (addAt (at_+(p.length:Int)) z out) m (by rw[addAt_length];exact ho) (by simp at hp ⊢;omega) (by simp at hm;omega)
    rw[hq] at step
    have hadd:addAt (at_+(p.length:Int)) z out=out.set q (fadd .f32 (out.getD q 0) z):=by
     unfold addAt;rw[hq2,if_pos (by omega)];rfl
    rw[hadd] at step ⊢
    rw[decide_eq_true hc]
    rw[hq2] at *
    have g1:decide ((0:Int)≤(q:Int)∧(q:Int)<(k:Int))=true:=decide_eq_true (by omega)
    have g2:okAt [.flt .f32] (fls .f32 out) q=true:=okAt_fls hqk
    have g3:Nat.ble (q+1) (fls .f32 out).length=true:=by rw[fls_length];exact le_ble (by omega)
    simp only[br_t,g1,gd_t,Int.toNat_natCast,g2,g3,fAt_fls,setN_flt]
    simpa using step
   ·have step:=ih (p++[z]) (addAt (at_+(p.length:Int)) z out) m (by rw[addAt_length];exact ho) (by simp at hp ⊢;omega) (by simp at hm;omega)
    have hadd:addAt (at_+(p.length:Int)) z out=out:=by unfold addAt;rw[if_neg (by omega)]
    rw[hadd,hq] at step
    rw[hadd,decide_eq_false hc,br_f]
    simpa using step
theorem s_samples_loop (n:Nat) (track:Int) (M:Nat) (us:List T) (k:Nat) (hk:k≤100000) (cs:List Eff) (hl:cs.length≤100) (hcl:∀ c∈cs,(0≤c.len∧c.len≤256)∧c.nums.length≤256) (hn:300<n):∀ (j i m:Nat) (out:List Nat),i+j=cs.length→out.length=k→j<m →
  f68.l0 n m cs.length (effs cs) M us track (k:Int) k (fls .f32 out) (cs.length:Int) (i:Int)=some (k,fls .f32 (trackGo track 0 (cs.drop i) out)):=by
 intro j
 induction j with
 | zero =>
   intro i m out hi ho hm
   obtain ⟨m,rfl⟩:∃ k,m=k+1:=⟨m - 1,by omega⟩
   rw[f68.l0,nlt_dec (by omega),List.drop_eq_nil_of_le (by omega)];rfl
 | succ j ih =>
   intro i m out hi ho hm
   obtain ⟨m,rfl⟩:∃ k,m=k+1:=⟨m - 1,by omega⟩
   have h:i<cs.length:=by omega
   obtain ⟨c1,c2⟩:=hcl _ (eAt_mem h)
   rw[f68.l0,lt_dec h,in_dec h,Int.toNat_natCast,okE h,eff_drop h,trackGo]
   simp only[br_t,Bool.and_self,gd_t,kE h,gE h,nE h,lE h,bd_s,wrap_succ (show i<9223372036854775807 by omega)]
   by_cases hc:(eAt cs i).kind=track
   ·have e:=s_samples_clip n cs.length (effs cs) M us track k (eAt cs i).kind (eAt cs i).len (cs.length:Int) (i:Int) hk (by omega) (eAt cs i).nums [] out n ho (by simp;omega) (by omega)
    have e:f68.l1 n n cs.length (effs cs) M us track (k:Int) k (fls .f32 out) (eAt cs i).kind (eAt cs i).len (eAt cs i).nums.length (fls .f32 (eAt cs i).nums) (cs.length:Int) (i:Int) ((eAt cs i).nums.length:Int) 0=_:=e
    rw[show ((eAt cs i).kind != track)=false by simp[hc],if_pos hc]
    simp only[br_f,e,bd_s,List.length_nil,Int.natCast_zero,Int.add_zero,Int.sub_zero,wrap_succ (show i<9223372036854775807 by omega)]
    exact ih (i+1) m _ (by omega) (by rw[addClip_length];exact ho) (by omega)
   ·rw[show ((eAt cs i).kind != track)=true by simp[hc],if_neg hc]
    simp only[br_t]
    exact ih (i+1) m out (by omega) ho (by omega)
theorem s_samples (n:Nat) (cs:List Eff) (M:Nat) (us:List T) (track:Int) (k:Nat) (hk:k≤100000) (hl:cs.length≤100) (hcl:∀ c∈cs,(0≤c.len∧c.len≤256)∧c.nums.length≤256) (hn:300<n) :
  f68 (n+1) cs.length (effs cs) M us track (k:Int)=some (k,fls .f32 (trackGo track 0 cs (List.replicate k 0))):=by
 have e:=s_samples_loop n track M us k hk cs hl hcl hn cs.length 0 n (List.replicate k 0) (by omega) (by simp) (by omega)
 have e:f68.l0 n n cs.length (effs cs) M us track (k:Int) k (fls .f32 (List.replicate k 0)) (cs.length:Int) 0=_:=e
 rw[f68,decide_eq_true (show (0:Int)≤(k:Int)∧(k:Int)≤2147483648 by omega),Int.toNat_natCast,reps_fls]
 simp only[gd_t,bd_s,e,List.drop_zero]
theorem i_state (n:Nat) {e:Ef} (h:e.Ok):f109 (n+2) e.eff.kind e.eff.len e.eff.nums.length (fls .f32 e.eff.nums)=some (e.keep,fls .f32 (newRow e)):=by
 rw[f109]
 cases e with
 | scale g=>rfl
 | filt a b c d f =>
   have hz:=i_zeroed n 2 (by omega)
   simp only[Ef.eff,beq_self_eq_true,br_t,br_f]
   show bd (f93 (n+1) ((2:Nat):Int)) _=_
   rw[hz];rfl
 | echo L p q =>
   have hL:1≤L∧L≤32:=h
   have hz:=i_zeroed n L (by omega)
   simp only[Ef.eff,show ((2:Int)==1)=false from rfl,beq_self_eq_true,br_t,br_f,hz,bd_s]
   rfl
 | squeeze a b c d =>
   have hz:=i_zeroed n 1 (by omega)
   simp only[Ef.eff,show ((3:Int)==1)=false from rfl,show ((3:Int)==2)=false from rfl,beq_self_eq_true,br_t,br_f]
   show bd (f93 (n+1) ((1:Nat):Int)) _=_
   rw[hz];rfl
 | clip g=>rfl
 | bend=>rfl
 | lim A k r =>
   have hA:A≤32∧W32 k∧_:=h
   have hz:=i_zeroed n A (by omega)
   have hb:Nat.ble (1+A) 2147483648=true:=by rw[Nat.ble_eq];omega
   simp only[Ef.eff,show ((6:Int)==1)=false from rfl,show ((6:Int)==2)=false from rfl,show ((6:Int)==3)=false from rfl,beq_self_eq_true,br_t,br_f,hz,bd_s,hb,gd_t]
   rw[Nat.add_comm 1 A]
   rfl
theorem i_new_loop (n:Nat) (N:Nat) (ts:List T) (es:List Ef) (hl:es.length≤100) (hok:∀ e∈es,e.Ok):∀ (j i m:Nat) (P:List (List Nat)),i+j=es.length→P.length≤i→j<m →
  f73.l0 (n+2) m N ts P.length (P.map rwF) es.length (effs (effL es)) (es.length:Int) (i:Int)=some ((P++(es.drop i).map newRow).length,(P++(es.drop i).map newRow).map rwF):=by
 intro j
 induction j with
 | zero =>
   intro i m P hi hP hm
   obtain ⟨m,rfl⟩:∃ k,m=k+1:=⟨m - 1,by omega⟩
   rw[f73.l0,nlt_dec (by omega),List.drop_eq_nil_of_le (by omega)]
   simp[br]
 | succ j ih =>
   intro i m P hi hP hm
   obtain ⟨m,rfl⟩:∃ k,m=k+1:=⟨m - 1,by omega⟩
   have h:i<es.length:=by omega
   have he:i<(effL es).length:=by rw[effL_length];exact h
   have hE:=hok _ (efAt_mem h)
   have hp:=push_rw P (newRow (efAt es i))
   rw[newRow_length] at hp
   have step:=ih (i+1) m (P++[newRow (efAt es i)]) (by omega) (by simp;omega) (by omega)
   rw[f73.l0,lt_dec h,in_dec h,Int.toNat_natCast,okE he,ef_drop h]
   simp only[br_t,Bool.and_self,gd_t,kE he,gE he,nE he,lE he,effL_at h,i_state n hE,bd_s,push_ok (show P.length<2147483648 by omega),hp,wrap_succ (show i<9223372036854775807 by omega)]
   rw[push_len (z:=newRow (efAt es i)),step]
   simp
theorem i_newstate (n:Nat) (es:List Ef) (hl:es.length≤100) (hok:∀ e∈es,e.Ok) (hn:200<n):f73 (n+3) es.length (effs (effL es))=some ((es.map newRow).length,(es.map newRow).map rwF):=by
 have e:=i_new_loop n es.length (effs (effL es)) es hl hok es.length 0 (n+2) [] (by omega) (by simp) (by omega)
 have e:f73.l0 (n+2) (n+2) es.length (effs (effL es)) 0 [] es.length (effs (effL es)) (es.length:Int) 0=_:=e
 rw[f73,e]
 simp only[bd_s,List.drop_zero,List.nil_append]
theorem s_newstate (n:Nat) (es:List Ef) (hl:es.length≤100) (hok:∀ e∈es,e.Ok) (hn:200<n):f67 (n+2) es.length (effs (effL es))=some ((es.map newRow).length,(es.map newRow).map rwF):=by
 have e:=s_new_loop n es hl hok es.length 0 (n+1) [] (by omega) (by simp) (by omega)
 have e:f67.l0 (n+1) (n+1) es.length (effs (effL es)) 0 (reps 0 [(T.lst 0 [])]) 0=_:=e
 rw[f67,e]
 simp only[bd_s,List.drop_zero,List.nil_append]
def chanM (es:List Ef) (track:Int) (cl:List Eff) (k:Nat):List Nat:=(chainGo es (es.map newRow) (trackGo track 0 cl (List.replicate k 0))).1
theorem allW_zeros (k:Nat):AllW (List.replicate k 0):=fun y hy=>by
 obtain ⟨-,rfl⟩:=List.mem_replicate.1 hy;exact w32_zero
theorem chan_facts {es:List Ef} (ho:∀ e∈es,e.Ok) (track:Int) (cl:List Eff) (k:Nat):(chanM es track cl k).length=k∧AllW (chanM es track cl k):=by
 obtain ⟨h1,-,h3⟩:=chain_fit es (es.map newRow) (trackGo track 0 cl (List.replicate k 0)) ho (new_ok es).fits (trackGo_w32 _ _ _ _ (allW_zeros k))
 exact ⟨by unfold chanM;rw[h3,trackGo_length,List.length_replicate],h1⟩
structure SOk (cl:List Eff) (ss:List Strp):Prop where
 n:1≤ss.length∧ss.length≤8
 c:cl.length≤12
 s:∀ s∈ss,chainB s.es=true∧(-2000≤s.tn∧s.tn≤2000)∧panB s.pan=true
 k:∀ c∈cl,(0≤c.kind∧c.kind≤(ss.length:Int) - 1)∧(0≤c.len∧c.len≤256)∧c.nums.length≤256
theorem sess_ok {cl:List Eff} {ss:List Strp} (h:sessB cl ss=true):SOk cl ss:=by
 unfold sessB at h
 simp only[Bool.and_eq_true,decide_eq_true_eq,List.all_eq_true] at h
 obtain ⟨h1,h2,h3,h4⟩:=h
 refine ⟨h1,h2,fun s hs => ?_,fun c hc => ?_⟩
 ·have:=h3 s hs
  unfold stB at this
  simp only[Bool.and_eq_true,decide_eq_true_eq] at this
  exact ⟨this.1,this.2.1,this.2.2⟩
 ·have:=h4 c hc
  unfold clB at this
  simp only[Bool.and_eq_true,decide_eq_true_eq] at this
  exact ⟨this.1,this.2.1,this.2.2⟩
structure GoodS (cl:List Eff) (ss:List Strp):Prop where
 c:∀ c∈cl,GoodE c
 s:∀ s∈ss,(∀ e∈s.es,GoodE e)∧GoodI .i64 s.tn∧W32 s.pan
theorem strip_efs {cl:List Eff} {ss:List Strp} (h:SOk cl ss) (hg:GoodS cl ss) {s:Strp} (hs:s∈ss):∃ es:List Ef,effL es=s.es∧(∀ e∈es,e.Ok)∧es.length≤8:=by
 have h1:=(h.s s hs).1
 unfold chainB at h1
 simp only[Bool.and_eq_true,decide_eq_true_eq] at h1
 obtain ⟨es,e1,e2⟩:=efs_of h1.2 (hg.s s hs).1
 exact ⟨es,e1,e2,by rw[← effL_length,e1];exact h1.1⟩
theorem i_channel (n:Nat) (hn:1000<n) {cl:List Eff} {ss:List Strp} (h:SOk cl ss) (i k:Nat) (hi:i<ss.length) (hk:k≤256) (es:List Ef) (he:effL es=(sAt5 ss i).es) (ho:∀ e∈es,e.Ok) (hl:es.length≤8) :
  f34 (n+104) cl.length (effs cl) ss.length (strps ss) (i:Int) (k:Int)=some (k,fls .f32 (chanM es (i:Int) cl k)):=by
 have hcl:∀ c∈cl,(0≤c.len∧c.len≤256)∧c.nums.length≤256:=fun c hc=>(h.k c hc).2
 have hc:=h.c
 have e1:=i_newstate (n+100) es (by omega) ho (by omega)
 have e1:f73 (n+103) es.length (effs (effL es))=_:=e1
 have e2:=i_samples (n+101) cl ss.length (strps ss) (i:Int) 0 k (by omega) (by omega) (by omega) hcl (by omega)
 have e2:f57 (n+103) cl.length (effs cl) ss.length (strps ss) (i:Int) 0 (k:Int)=_:=e2
 have e3:=i_runchain_ n (by omega) es (by omega) ho (es.map newRow) (new_ok es).fits (trackGo (i:Int) 0 cl (List.replicate k 0)) (trackGo_w32 _ _ _ _ (allW_zeros k)) (by rw[trackGo_length,List.length_replicate];exact hk)
 have hlen:=(chan_facts ho (i:Int) cl k).1
 rw[trackGo_length,List.length_replicate] at e3
 have hle:(sAt5 ss i).es.length=es.length:=by rw[← he,effL_length]
 rw[f34,in_dec hi,Int.toNat_natCast,okS5 hi]
 simp only[Bool.and_self,gd_t,nS5 hi,lS5 hi]
 rw[hle,← he]
 simp only[e1,e2,e3,bd_s]
 rw[show (chainGo es (es.map newRow) (trackGo (i:Int) 0 cl (List.replicate k 0))).1=chanM es (i:Int) cl k from rfl,hlen]
theorem s_channel (n:Nat) (hn:1000<n) {cl:List Eff} {ss:List Strp} (h:SOk cl ss) (i k:Nat) (hi:i<ss.length) (hk:k≤256) (es:List Ef) (he:effL es=(sAt5 ss i).es) (ho:∀ e∈es,e.Ok) (hl:es.length≤8) :
  f30 (n+104) cl.length (effs cl) ss.length (strps ss) (i:Int) (k:Int)=some (k,fls .f32 (chanM es (i:Int) cl k)):=by
 have hcl:∀ c∈cl,(0≤c.len∧c.len≤256)∧c.nums.length≤256:=fun c hc=>(h.k c hc).2
 have hc:=h.c
 have e1:=s_newstate (n+101) es (by omega) ho (by omega)
 have e1:f67 (n+103) es.length (effs (effL es))=_:=e1
 have e2:=s_samples (n+102) cl ss.length (strps ss) (i:Int) k (by omega) (by omega) hcl (by omega)
 have e2:f68 (n+103) cl.length (effs cl) ss.length (strps ss) (i:Int) (k:Int)=_:=e2
 have e3:=s_runchain n (by omega) es (by omega) ho (es.map newRow) (new_ok es).fits (trackGo (i:Int) 0 cl (List.replicate k 0)) (trackGo_w32 _ _ _ _ (allW_zeros k)) (by rw[trackGo_length,List.length_replicate];exact hk)
 have hlen:=(chan_facts ho (i:Int) cl k).1
 rw[trackGo_length,List.length_replicate] at e3
 have hle:(sAt5 ss i).es.length=es.length:=by rw[← he,effL_length]
 rw[f30,in_dec hi,Int.toNat_natCast,okS5 hi]
 simp only[Bool.and_self,gd_t,nS5 hi,lS5 hi]
 rw[hle,← he]
 simp only[e1,e2,e3,bd_s]
 rw[show (chainGo es (es.map newRow) (trackGo (i:Int) 0 cl (List.replicate k 0))).1=chanM es (i:Int) cl k from rfl,hlen]
theorem copy_loop (n:Nat) (xs:List Nat) (hx:xs.length≤1048576):∀ (j i m:Nat) (ys:List Nat),ys.length=xs.length→i+j=xs.length→j<m →
  f106.l0 n m xs.length (fls .f32 xs) xs.length (fls .f32 (xs.take i++ys.drop i)) (i:Int)=some (xs.length,fls .f32 xs):=by
 intro j
 induction j with
 | zero =>
   intro i m ys hl hi hm
   obtain ⟨m,rfl⟩:∃ k,m=k+1:=⟨m - 1,by omega⟩
   rw[f106.l0,nlt_dec (by omega)]
   simp only[br]
   rw[List.take_of_length_le (by omega),List.drop_eq_nil_of_le (by omega),List.append_nil]
 | succ j ih =>
   intro i m ys hl hi hm
   obtain ⟨m,rfl⟩:∃ k,m=k+1:=⟨m - 1,by omega⟩
   have hlt:i<xs.length:=by omega
   rw[f106.l0,lt_dec hlt,in_dec hlt,Int.toNat_natCast,okAt_fls hlt,wrap_succ (by omega)]
   have hlen:Nat.ble (i+1) (fls .f32 (xs.take i++ys.drop i)).length=true:=by
    rw[Nat.ble_eq,fls_length];simp;omega
   rw[hlen]
   simp only[br,gd,Bool.and_self]
   rw[setN_one,fAt_fls,set_fls]
   have:xs.getD i 0=xs[i]:=by simp[List.getD,hlt]
   rw[this,take_set_drop hlt hl]
   exact ih (i+1) m ys hl (by omega) (by omega)
theorem copied (n:Nat) (xs:List Nat) (hx:xs.length≤1048576) (hn:xs.length<n):f106 (n+1) xs.length (fls .f32 xs)=some (xs.length,fls .f32 xs):=by
 rw[f106]
 have h:=copy_loop n xs hx xs.length 0 n (List.replicate xs.length 0) (by simp) (by omega) hn
 rw[List.take_zero,List.drop_zero,List.nil_append] at h
 have e:decide ((0:Int)≤((xs.length:Nat):Int)∧((xs.length:Nat):Int)≤(2147483648:Int))=true:=by simp;omega
 rw[reps_fls,e]
 simp only[gd]
 rw[show ((0:Nat):Int)=0 from rfl] at h
 rw[h];rfl
theorem same_self (n y:Nat):f35 (n+1) y y=some true:=by
 unfold f35
 simp only[fne_feq]
 cases h:feq FloatKind.f64 y y
 ·simp[br]
 ·cases h0:feq FloatKind.f64 y 0 <;>simp[br]
theorem eq_loop (n:Nat) (xs:List Nat) (hx:xs.length≤2147483648):∀ (j i m:Nat),i+j=xs.length→j<m →
  f10.l0 (n+1) m xs.length (fls .f32 xs) xs.length (fls .f32 xs) (i:Int)=some (Sum.inr ()):=by
 intro j
 induction j with
 | zero =>
   intro i m hi hm
   obtain ⟨m,rfl⟩:∃ k,m=k+1:=⟨m - 1,by omega⟩
   rw[f10.l0,nlt_dec (by omega)]
   rfl
 | succ j ih =>
   intro i m hi hm
   obtain ⟨m,rfl⟩:∃ k,m=k+1:=⟨m - 1,by omega⟩
   have hlt:i<xs.length:=by omega
   rw[f10.l0,lt_dec hlt,in_dec hlt,Int.toNat_natCast,okAt_fls hlt,wrap_succ (by omega),fltToFlt_wide]
   simp only[br,gd,bd,Bool.and_self,same_self,Bool.not_true]
   exact ih (i+1) m (by omega) (by omega)
theorem eq_self (n:Nat) (xs:List Nat) (hx:xs.length≤2147483648) (hn:xs.length<n+1):f10 (n+2) xs.length (fls .f32 xs) xs.length (fls .f32 xs)=some true:=by
 rw[f10]
 have h:=eq_loop n xs hx xs.length 0 (n+1) (by omega) hn
 rw[show ((0:Nat):Int)=0 from rfl] at h
 rw[h,show (((xs.length:Nat):Int) != ((xs.length:Nat):Int))=false by simp]
 rfl
theorem mark32_loop (n:Nat) (xs:List Nat) (hx:xs.length≤2147483648) (s:Int) (hs:0≤s) (hs':s≤1099511627776):∀ (j i m:Nat),i+j=xs.length→j<m →
  f13.l0 n m xs.length (fls .f32 ((marksF .f32 s xs.length).take i++xs.drop i)) (s+(i:Int)) (i:Int)=some (xs.length,fls .f32 (marksF .f32 s xs.length),s+(xs.length:Int)):=by
 intro j
 induction j with
 | zero =>
   intro i m hi hm
   obtain ⟨m,rfl⟩:∃ k,m=k+1:=⟨m - 1,by omega⟩
   have hi:i=xs.length:=by omega
   subst hi
   rw[f13.l0,nlt_dec (by omega)]
   simp only[br]
   rw[List.take_of_length_le (by rw[marksF_length];omega),List.drop_eq_nil_of_le (by omega),List.append_nil]
 | succ j ih =>
   intro i m hi hm
   obtain ⟨m,rfl⟩:∃ k,m=k+1:=⟨m - 1,by omega⟩
   have hlt:i<xs.length:=by omega
   have hlt':i<(marksF .f32 s xs.length).length:=by rw[marksF_length];exact hlt
   have hlen:Nat.ble (i+1) (fls .f32 ((marksF .f32 s xs.length).take i++xs.drop i)).length=true:=by
    apply le_ble
    rw[fls_length,List.length_append,List.length_take,List.length_drop,marksF_length];omega
   rw[f13.l0,lt_dec hlt,in_dec hlt,Int.toNat_natCast,wrap_succ (by omega),hlen]
   simp only[br,gd]
   rw[setN_one,set_fls,show IntKind.i64.wrap (s+(i:Int)+1)=s+((i+1:Nat):Int) by rw[wrap64] <;>omega,← marksF_at hlt',take_set_drop hlt' (by rw[marksF_length])]
   exact ih (i+1) m (by omega) (by omega)
theorem mark32 (n:Nat) (xs:List Nat) (hx:xs.length≤2147483648) (s:Int) (hs:0≤s) (hs':s≤1099511627776) (hn:xs.length<n) :
  f13 (n+1) xs.length (fls .f32 xs) s=some (s+(xs.length:Int),xs.length,fls .f32 (marksF .f32 s xs.length)):=by
 rw[f13]
 have h:=mark32_loop n xs hx s hs hs' xs.length 0 n (by omega) hn
 rw[List.take_zero,List.drop_zero,List.nil_append,show ((0:Nat):Int)=0 from rfl,Int.add_zero] at h
 rw[h];rfl
theorem held32_loop (n l:Nat) (hx:l≤2147483648) (s:Int) (hs:0≤s) (hs':s≤1099511627776):∀ (j i m:Nat),i+j=l→j<m →
  f14.l0 n m l (fls .f32 (marksF .f32 s l)) (s+(i:Int)) (i:Int)=some (Sum.inr (s+(l:Int))):=by
 intro j
 induction j with
 | zero =>
   intro i m hi hm
   obtain ⟨m,rfl⟩:∃ k,m=k+1:=⟨m - 1,by omega⟩
   have hi:i=l:=by omega
   subst hi
   rw[f14.l0,nlt_dec (by omega)]
   rfl
 | succ j ih =>
   intro i m hi hm
   obtain ⟨m,rfl⟩:∃ k,m=k+1:=⟨m - 1,by omega⟩
   have hlt:i<l:=by omega
   rw[f14.l0,lt_dec hlt,in_dec hlt,Int.toNat_natCast,wrap_succ (by omega),okAt_fls (by rw[marksF_length];exact hlt),fAt_fls,marksF_get hlt,nearest_fne,
    show IntKind.i64.wrap (s+(i:Int)+1)=s+((i+1:Nat):Int) by rw[wrap64] <;>omega]
   simp only[br,gd,Bool.and_self]
   exact ih (i+1) m (by omega) (by omega)
theorem held32 (n l:Nat) (hx:l≤2147483648) (s:Int) (hs:0≤s) (hs':s≤1099511627776) (hn:l<n) :
  f14 (n+1) l (fls .f32 (marksF .f32 s l)) s=some (s+(l:Int)):=by
 rw[f14]
 have h:=held32_loop n l hx s hs hs' l 0 n (by omega) hn
 rw[show ((0:Nat):Int)=0 from rfl,Int.add_zero] at h
 rw[h];rfl
theorem rows_set {α:Type} {f:α→List T} {w:Nat} (hf:∀ x,(f x).length=w) (d:α):∀ (ts:List α) (i c:Nat) (v:T) (y:α),i<ts.length→c<w→f y=(f (ts.getD i d)).set c v→(ts.flatMap f).set (i * w+c) v=(ts.set i y).flatMap f
 | [],i,c,v,y,h,_,_=>by simp at h
 | t::ts,0,c,v,y,_,hc,hy=>by
   simp only[List.flatMap_cons,List.set_cons_zero,Nat.zero_mul,Nat.zero_add]
   rw[List.set_append_left _ _ (by rw[hf];exact hc),hy];rfl
 | t::ts,i+1,c,v,y,h,hc,hy=>by
   simp only[List.flatMap_cons,List.set_cons_succ]
   have e:(i+1) * w+c=w+(i * w+c):=by rw[Nat.add_mul];omega
   rw[List.set_append_right _ _ (by rw[hf,e];omega),hf,show (i+1) * w+c - w=i * w+c by omega,rows_set hf d ts i c v y (by simpa using h) hc (by simpa using hy)]
theorem effC_length (e:Eff):(effC e).length=3:=rfl
theorem stC_length (s:Strp):(stC s).length=5:=rfl
theorem effs_length (ts:List Eff):(effs ts).length=3 * ts.length:=by
 unfold effs
 induction ts with
 | nil=>rfl
 | cons t ts ih=>rw[List.flatMap_cons,List.length_append,ih,effC_length,List.length_cons];omega
theorem strps_length (ts:List Strp):(strps ts).length=5 * ts.length:=by
 unfold strps
 induction ts with
 | nil=>rfl
 | cons t ts ih=>rw[List.flatMap_cons,List.length_append,ih,stC_length,List.length_cons];omega
theorem eff_row {ts:List Eff} {i:Nat} (h:i<ts.length) (e:Eff):setN (effs ts) (i * 3+0) [.int .i64 e.kind,.int .i64 e.len,.lst e.nums.length (fls .f32 e.nums)]=effs (ts.set i e):=by
 show (((effs ts).set (i * 3+0) _).set (i * 3+0+1) _).set (i * 3+0+1+1) _=_
 unfold effs
 rw[rows_set effC_length ⟨5,0,[]⟩ ts i 0 (.int .i64 e.kind) ⟨e.kind,(eAt ts i).len,(eAt ts i).nums⟩ h (by decide) rfl,
  show i * 3+0+1=i * 3+1 from rfl,rows_set effC_length ⟨5,0,[]⟩ _ i 1 (.int .i64 e.len) ⟨e.kind,e.len,(eAt ts i).nums⟩ (by simpa using h) (by decide) (by simp[List.getD,h];rfl),
  show i * 3+1+1=i * 3+2 from rfl,rows_set effC_length ⟨5,0,[]⟩ _ i 2 (.lst e.nums.length (fls .f32 e.nums)) e (by simpa using h) (by decide) (by simp[List.getD,h];rfl)]
 simp
theorem st_row {ts:List Strp} {i:Nat} (h:i<ts.length) (s:Strp):setN (strps ts) (i * 5+0) [.lst s.es.length (effs s.es),.int .i64 s.tn,.flt .f32 s.pan,.bool s.mute,.bool s.solo]=strps (ts.set i s):=by
 show (((((strps ts).set (i * 5+0) _).set (i * 5+0+1) _).set (i * 5+0+1+1) _).set (i * 5+0+1+1+1) _).set (i * 5+0+1+1+1+1) _=_
 unfold strps
 rw[rows_set stC_length ⟨[],0,0,false,false⟩ ts i 0 (.lst s.es.length (effs s.es)) ⟨s.es,(sAt5 ts i).tn,(sAt5 ts i).pan,(sAt5 ts i).mute,(sAt5 ts i).solo⟩ h (by decide) rfl,
  show i * 5+0+1=i * 5+1 from rfl,rows_set stC_length ⟨[],0,0,false,false⟩ _ i 1 (.int .i64 s.tn) ⟨s.es,s.tn,(sAt5 ts i).pan,(sAt5 ts i).mute,(sAt5 ts i).solo⟩ (by simpa using h) (by decide) (by simp[List.getD,h];rfl),
  show i * 5+1+1=i * 5+2 from rfl,rows_set stC_length ⟨[],0,0,false,false⟩ _ i 2 (.flt .f32 s.pan) ⟨s.es,s.tn,s.pan,(sAt5 ts i).mute,(sAt5 ts i).solo⟩ (by simpa using h) (by decide) (by simp[List.getD,h];rfl),
  show i * 5+2+1=i * 5+3 from rfl,rows_set stC_length ⟨[],0,0,false,false⟩ _ i 3 (.bool s.mute) ⟨s.es,s.tn,s.pan,s.mute,(sAt5 ts i).solo⟩ (by simpa using h) (by decide) (by simp[List.getD,h];rfl),
  show i * 5+3+1=i * 5+4 from rfl,rows_set stC_length ⟨[],0,0,false,false⟩ _ i 4 (.bool s.solo) s (by simpa using h) (by decide) (by simp[List.getD,h];rfl)]
 simp
theorem reps_effs (n:Nat):reps n [(T.int .i64 (0:Int)),(T.int .i64 (0:Int)),(T.lst 0 [])]=effs (List.replicate n ⟨0,0,[]⟩):=by
 induction n with
 | zero=>rfl
 | succ n ih=>rw[List.replicate_succ,show effs (⟨0,0,[]⟩::List.replicate n ⟨0,0,[]⟩)=effC ⟨0,0,[]⟩++effs (List.replicate n ⟨0,0,[]⟩) from rfl,← ih];rfl
theorem reps_strps (n:Nat):reps n [(T.lst 0 []),(T.int .i64 (0:Int)),(T.flt .f32 0),(T.bool false),(T.bool false)]=strps (List.replicate n ⟨[],0,0,false,false⟩):=by
 induction n with
 | zero=>rfl
 | succ n ih=>rw[List.replicate_succ,show strps (⟨[],0,0,false,false⟩::List.replicate n ⟨[],0,0,false,false⟩)=stC ⟨[],0,0,false,false⟩++strps (List.replicate n ⟨[],0,0,false,false⟩) from rfl,← ih];rfl
def szE:List Eff→Nat
 | []=>0
 | e::es=>1+e.nums.length+szE es
def szSt:List Strp→Nat
 | []=>0
 | s::ss=>1+szE s.es+szSt ss
theorem szE_len:∀ (es:List Eff),es.length≤szE es
 | []=>Nat.le_refl _
 | e::es=>by have:=szE_len es;simp only[List.length_cons,szE];omega
theorem szE_num:∀ (es:List Eff) (e:Eff),e∈es→e.nums.length≤szE es
 | e::es,f,h=>by
   rcases List.mem_cons.1 h with rfl | h
   ·simp only[szE];omega
   ·have:=szE_num es f h;simp only[szE];omega
theorem szSt_len:∀ (es:List Strp),es.length≤szSt es
 | []=>Nat.le_refl _
 | e::es=>by have:=szSt_len es;simp only[List.length_cons,szSt];omega
theorem szSt_es:∀ (es:List Strp) (s:Strp),s∈es→szE s.es≤szSt es
 | e::es,f,h=>by
   rcases List.mem_cons.1 h with rfl | h
   ·simp only[szSt];omega
   ·have:=szSt_es es f h;simp only[szSt];omega
def nmE:List Eff→Nat
 | []=>0
 | e::es=>e.nums.length+nmE es
theorem szE_nm:∀ (es:List Eff),szE es=es.length+nmE es
 | []=>rfl
 | e::es=>by rw[szE,szE_nm es,nmE,List.length_cons];omega
def nmSt:List Strp→Nat
 | []=>0
 | s::ss=>szE s.es+nmSt ss
theorem szSt_nm:∀ (es:List Strp),szSt es=es.length+nmSt es
 | []=>rfl
 | e::es=>by rw[szSt,szSt_nm es,nmSt,List.length_cons];omega
def leftM (left:Int) (k:Nat):Int:=if (k:Int)≤left then left - k else -1
theorem sz32 (n:Nat) (xs:List Nat) (hx:xs.length≤9223372036854775807) (left:Int) (h0:0≤left) (h1:left≤1048576):f100 (n+1) xs.length (fls .f32 xs) left=some (leftM left xs.length):=by
 rw[f100,show IntKind.i64.wrap (left - (xs.length:Int))=left - (xs.length:Int) by rw[wrap64] <;>omega]
 unfold leftM
 by_cases h:(xs.length:Int)≤left
 ·rw[decide_eq_false (by omega),if_pos h];rfl
 ·rw[decide_eq_true (by omega),if_neg h];rfl
theorem leftM_neg {left:Int} {k:Nat} (h0:0≤left):decide (leftM left k<0) = !decide ((k:Int)≤left):=by
 unfold leftM
 split
 ·rename_i h;rw[decide_eq_true h];exact decide_eq_false (by omega)
 ·rename_i h;rw[decide_eq_false h];rfl
end Go.Proofs.YtdobhipbgpiceaaGreat.D
end
