/- FnBlocks holds: for every input the law returns true, and its arguments read as before. -/
import Derived.Test.YtokonabdnlckdaaGreatM3e
set_option linter.all false
set_option linter.unusedVariables false
open List (all_cons all_eq_true any_eq_false any_eq_true append_assoc append_nil cons_append count_append drop_drop drop_eq_getElem_cons drop_eq_nil_of_le drop_left' drop_zero flatMap_append flatMap_cons flatMap_def flatMap_singleton flatten_cons flatten_nil foldl_cons length_cons length_drop length_eq_one_iff length_eq_zero_iff length_map length_nil length_set length_singleton length_take mapM_cons map_append map_congr_left map_cons map_nil mem_append mem_append_left mem_append_right mem_cons mem_cons_of_mem mem_cons_self mem_flatten mem_map mem_of_mem_drop mem_or_eq_of_mem_set mem_singleton nil_append nodup_append nodup_cons not_mem_nil perm_append_comm perm_iff_count perm_middle replicate_succ take_append_drop take_left' take_length take_of_length_le take_succ_cons take_zero)
noncomputable section
namespace Go.Proofs.YtokonabdnlckdaaGreat.D
open Go Go.Desk
def f141.P:List Aa:=[Vc]
def f141.A:AZ (Bool):=.one ⟨[CC],[none]⟩ Cq
def f141.F (n:Nat) (v:Nat):=f141 n v
def f141.O (n:Nat):BF:=AL (E:=E) [] [] n
theorem f141.ok:Bu 141 f141.P BH f141.A f141.F:=Bv bY f141.O
def f141.w:A7 E:=BL 141 f141.P BH f141.A f141.F f141.ok
def f142:Nat→Option (Nat)
 | 0=>none
 | n+1 =>
   bd (Ao n (9221120237041090561:Int)) fun r1 =>
   let x2:=r1
   some x2
def f142.P:List Aa:=[]
def f142.A:AZ (Nat):=.one ⟨[T9],[]⟩ BH
def f142.F (n:Nat) (v:Unit):=f142 n
def f142.O (n:Nat):BF:=AL (E:=E) [x168.w] [] n
theorem f142.ok:Bu 142 f142.P sg f142.A f142.F:=Bv bP f142.O
def f142.w:A7 E:=BL 142 f142.P sg f142.A f142.F f142.ok
def f143:Nat→Nat→Option (Bool)
 | 0,_=>none
 | n+1,x1 =>
   bd (Oe n x1) fun r2 =>
   let x3:=r2
   some (LH .f64 x3 4841369599423283200)
def f143.P:List Aa:=[Vc]
def f143.A:AZ (Bool):=.one ⟨[CC],[none]⟩ Cq
def f143.F (n:Nat) (v:Nat):=f143 n v
def f143.O (n:Nat):BF:=AL (E:=E) [x169.w] [] n
theorem f143.ok:Bu 143 f143.P BH f143.A f143.F:=Bv bS f143.O
def f143.w:A7 E:=BL 143 f143.P BH f143.A f143.F f143.ok
def f178:Nat→Nat→Option (Nat)
 | 0,_=>none
 | n+1,x1 =>
   bd (Cc n x1) fun r2 =>
   let x3:=r2
   some x3
def f178.P:List Aa:=[Vc]
def f178.A:AZ (Nat):=.one ⟨[T9],[none]⟩ BH
def f178.F (n:Nat) (v:Nat):=f178 n v
def f178.O (n:Nat):BF:=AL (E:=E) [x179.w] [] n
theorem f178.ok:Bu 178 f178.P BH f178.A f178.F:=Bv cE f178.O
def f178.w:A7 E:=BL 178 f178.P BH f178.A f178.F f178.ok
def f170:Nat→Nat→Option (Nat)
 | 0,_=>none
 | n+1,x1 =>
   bd (f178 n x1) fun r2 =>
   let x3:=r2
   br (RQ .f64 x3 0) (
    let x4:=(BW .f64 x1 0)
    br (flt .f64 x4 0) (
     let x5:=(BD .f64 x4 4607182418800017408)
     some x5) (
     some x4)) (
    let x6:=(BW .f64 x1 x3)
    br (flt .f64 x6 0) (
     let x7:=(BD .f64 x6 4607182418800017408)
     some x7) (
     some x6))
def f170.P:List Aa:=[Vc]
def f170.A:AZ (Nat):=.one ⟨[T9],[none]⟩ BH
def f170.F (n:Nat) (v:Nat):=f170 n v
def f170.O (n:Nat):BF:=AL (E:=E) [f178.w] [] n
theorem f170.ok:Bu 170 f170.P BH f170.A f170.F:=Bv cD f170.O
def f170.w:A7 E:=BL 170 f170.P BH f170.A f170.F f170.ok
def f144.l0 (n:Nat):Nat→Bool→Nat→Nat→Nat→Nat→Option (Bool × Nat × Nat)
 | 0,_,_,_,_,_=>none
 | m+1,b1,x2,x3,x4,x5 =>
   br (LH .f64 x5 4607182418800017408) (
    let x6:=(BW .f64 4607182418800017408 (fdiv .f64 (AT .f64 x3 x4) (AT .f64 (AT .f64 4611686018427387904 x5) (BD .f64 (AT .f64 4611686018427387904 x5) 4607182418800017408))))
    f144.l0 n m b1 x2 x3 x6 (BW .f64 x5 4607182418800017408)) (
    some (b1,x2,x4))
def f144:Nat→Nat→Option (Nat)
 | 0,_=>none
 | n+1,x1 =>
   bd (f170 n x1) fun r2 =>
   let x3:=r2
   let b4:=(LH .f64 x3 4602678819172646912)
   br b4 (
    let x5:=(BW .f64 x3 4602678819172646912)
    br (H2 .f64 x5 4598175219545276416) (
     let x6:=(BW .f64 4602678819172646912 x5)
     let x7:=(AT .f64 x6 4618760256179416344)
     let x8:=(AT .f64 x7 x7)
     bd (f144.l0 n n b4 x7 x8 4607182418800017408 4620693217682128896) fun r9 =>
     let b10:=r9.1
     let x11:=r9.2.1
     let x12:=r9.2.2
     br b10 (
      some (K7 .f64 (AT .f64 x11 x12))) (
      some (AT .f64 x11 x12))) (
     let x13:=(AT .f64 x5 4618760256179416344)
     let x14:=(AT .f64 x13 x13)
     bd (f144.l0 n n b4 x13 x14 4607182418800017408 4620693217682128896) fun r15 =>
     let b16:=r15.1
     let x17:=r15.2.1
     let x18:=r15.2.2
     br b16 (
      some (K7 .f64 (AT .f64 x17 x18))) (
      some (AT .f64 x17 x18)))) (
    br (H2 .f64 x3 4598175219545276416) (
     let x19:=(BW .f64 4602678819172646912 x3)
     let x20:=(AT .f64 x19 4618760256179416344)
     let x21:=(AT .f64 x20 x20)
     bd (f144.l0 n n b4 x20 x21 4607182418800017408 4620693217682128896) fun r22 =>
     let b23:=r22.1
     let x24:=r22.2.1
     let x25:=r22.2.2
     br b23 (
      some (K7 .f64 (AT .f64 x24 x25))) (
      some (AT .f64 x24 x25))) (
     let x26:=(AT .f64 x3 4618760256179416344)
     let x27:=(AT .f64 x26 x26)
     bd (f144.l0 n n b4 x26 x27 4607182418800017408 4620693217682128896) fun r28 =>
     let b29:=r28.1
     let x30:=r28.2.1
     let x31:=r28.2.2
     br b29 (
      some (K7 .f64 (AT .f64 x30 x31))) (
      some (AT .f64 x30 x31))))
def Sy:B4 (eF) where
 pk:=fun (a0,a1,a2,a3,a4)=>[.bool a0,.flt a1,.flt a2,.flt a3,.flt a4]
 up:=fun ls=>match ls with
  | [.bool a0,.flt a1,.flt a2,.flt a3,.flt a4]=>some (a0,a1,a2,a3,a4)
  | _=>none
def Z2:B4 (Bool × Nat × Nat) where
 pk:=fun (a0,a1,a2)=>[.bool a0,.flt a1,.flt a2]
 up:=fun ls=>match ls with
  | [.bool a0,.flt a1,.flt a2]=>some (a0,a1,a2)
  | _=>none
def f144.l0.P:AS:=⟨[(4,Kl),(5,MP),(6,MP),(7,MP),(8,MP)],0⟩
def f144.l0.A:Fy (Bool × Nat × Nat):=.one (.exit 0) ⟨[(4,Kl),(5,MP),(7,MP)],0⟩ Z2
def f144.l0.F (n m:Nat) (v:eF):=let (a,b,c,d,e):=v;f144.l0 n m a b c d e
def f144.l0.W (n:Nat):GT:=.of 176 f144.l0.P Sy f144.l0.A (f144.l0.F n n)
def f144.P:List Aa:=[Vc]
def f144.A:AZ (Nat):=.one ⟨[T9],[none]⟩ BH
def f144.F (n:Nat) (v:Nat):=f144 n v
def f144.O (n:Nat):BF:=AL (E:=E) [f170.w] [f144.l0.W n] n
theorem f144.l0.ok:∀ n,HO 144 Wt 0 n (f144.O n):=Hi f144.l0.P Sy f144.l0.A f144.l0.F
theorem f144.ok:Bu 144 f144.P BH f144.A f144.F:=Bv Wt f144.O [Ap Wt 0] (fun n=>(.cons (f144.l0.ok n) .nil))
def f144.w:A7 E:=BL 144 f144.P BH f144.A f144.F f144.ok
def f104:Nat→Nat→Option (Nat)
 | 0,_=>none
 | n+1,x1 =>
   bd ((Aj .f32 x1 .f64)) fun y2 =>
   bd (f141 n y2) fun r3 =>
   let b4:=r3
   br (!b4) (
    bd (f142 n) fun r5 =>
    let x6:=r5
    bd ((Aj .f64 x6 .f32)) fun y7 =>
    some y7) (
    bd (f143 n y2) fun r8 =>
    let b9:=r8
    br b9 (
     some 0) (
     bd (f144 n y2) fun r10 =>
     let x11:=r10
     bd ((Aj .f64 x11 .f32)) fun y12 =>
     some y12))
def f104.P:List Aa:=[EX]
def f104.A:AZ (Nat):=.one ⟨[H4],[none]⟩ BH
def f104.F (n:Nat) (v:Nat):=f104 n v
def f104.O (n:Nat):BF:=AL (E:=E) [f141.w,f142.w,f143.w,f144.w] [] n
theorem f104.ok:Bu 104 f104.P BH f104.A f104.F:=Bv aO f104.O
def f104.w:A7 E:=BL 104 f104.P BH f104.A f104.F f104.ok
def f73:Nat→Nat→Option (Nat × Nat × Bool)
 | 0,_=>none
 | n+1,x1 =>
   bd (f65 n x1) fun r2 =>
   let b3:=r2
   br (!b3) (
    some (0,0,false)) (
    bd (f104 n (fdiv .f32 (BW .f32 1065353216 x1) 1082130432)) fun r4 =>
    let x5:=r4
    bd (f104 n (fdiv .f32 x1 1082130432)) fun r6 =>
    let x7:=r6
    some (x5,x7,true))
def ah:B4 (Nat × Nat × Bool) where
 pk:=fun (a0,a1,a2)=>[.flt a0,.flt a1,.bool a2]
 up:=fun ls=>match ls with
  | [.flt a0,.flt a1,.bool a2]=>some (a0,a1,a2)
  | _=>none
def f73.P:List Aa:=[EX]
def f73.A:AZ (Nat × Nat × Bool):=.one ⟨[H4,H4,CC],[none]⟩ ah
def f73.F (n:Nat) (v:Nat):=f73 n v
def f73.O (n:Nat):BF:=AL (E:=E) [f65.w,f104.w] [] n
theorem f73.ok:Bu 73 f73.P BH f73.A f73.F:=Bv ge f73.O
def f73.w:A7 E:=BL 73 f73.P BH f73.A f73.F f73.ok
def f28.l1 (n:Nat):Nat→Nat→List T→Int→Nat→List T→Nat→List T→Nat→List T→Nat→Nat→Nat→Nat→List T→Int→Int→Nat→List T→Int→Int→Option (fF)
 | 0,_,_,_,_,_,_,_,_,_,_,_,_,_,_,_,_,_,_,_,_=>none
 | m+1,n1,l2,i3,n4,l5,n6,l7,n8,l9,x10,x11,x12,n13,l14,i15,i16,n17,l18,i19,i20 =>
   br (decide (i20<i19)) (
    gd ((decide ((0≤i20)∧(i20<(n17:Int))))&&(AR [(.flt .f32)] l18 (Int.toNat i20))) (
    let x21:=(CY l18 (Int.toNat i20))
    let x22:=(AT .f32 x21 x10)
    gd (decide ((0≤i20)∧(i20<(n4:Int)))) (
    gd (AR [(.flt .f32)] l5 (Int.toNat i20)) (
    gd (decide ((0≤i20)∧(i20<(n4:Int)))) (
    gd (Nat.ble ((Int.toNat i20)+1) (List.length l5)) (
    let l23:=(AF l5 (Int.toNat i20) [(T.flt .f32 (BD .f32 (CY l5 (Int.toNat i20)) (AT .f32 x22 x11)))])
    gd (decide ((0≤i20)∧(i20<(n6:Int)))) (
    gd (AR [(.flt .f32)] l7 (Int.toNat i20)) (
    gd (decide ((0≤i20)∧(i20<(n6:Int)))) (
    gd (Nat.ble ((Int.toNat i20)+1) (List.length l7)) (
    let l24:=(AF l7 (Int.toNat i20) [(T.flt .f32 (BD .f32 (CY l7 (Int.toNat i20)) (AT .f32 x22 x12)))])
    f28.l1 n m n1 l2 i3 n4 l23 n6 l24 n8 l9 x10 x11 x12 n13 l14 i15 i16 n17 l18 i19 (IntKind.i64.wrap (i20+(1:Int))))))))))))) (
    some (n1,l2,i3,n4,l5,n6,l7,n8,l9,n13,l14,i15,i16))
termination_by structural x=>x
def f28.l0 (n:Nat):Nat→Nat→List T→Int→Nat→List T→Nat→List T→Nat→List T→Nat→List T→Int→Int→Option (DZ)
 | 0,_,_,_,_,_,_,_,_,_,_,_,_,_=>none
 | m+1,n1,l2,i3,n4,l5,n6,l7,n8,l9,n10,l11,i12,i13 =>
   br (decide (i13<i12)) (
    gd ((decide ((0≤i13)∧(i13<(n10:Int))))&&(AR [.lst,(.int .i64),(.flt .f32),.bool,.bool] l11 (((Int.toNat i13) * 5)+0))) (
    let n14:=(HP l11 (((Int.toNat i13) * 5)+0))
    let l15:=(H1 l11 (((Int.toNat i13) * 5)+0))
    let i16:=(FA l11 ((((Int.toNat i13) * 5)+0)+1))
    let x17:=(CY l11 (((((Int.toNat i13) * 5)+0)+1)+1))
    let b18:=(KD l11 ((((((Int.toNat i13) * 5)+0)+1)+1)+1))
    let b19:=(KD l11 (((((((Int.toNat i13) * 5)+0)+1)+1)+1)+1))
    gd (decide ((0≤i13)∧(i13<(n8:Int)))) (
    gd (AR [.bool] l9 (Int.toNat i13)) (
    br (!(KD l9 (Int.toNat i13))) (
     f28.l0 n m n1 l2 i3 n4 l5 n6 l7 n8 l9 n10 l11 i12 (IntKind.i64.wrap (i13+(1:Int)))) (
     bd (f72 n i16) fun r20 =>
     let x21:=r20.1
     bd (f73 n x17) fun r23 =>
     let x24:=r23.1
     let x25:=r23.2.1
     bd (f32 n (n14:Int)) fun r27 =>
     let i28:=r27
     gd (decide ((0≤(0:Int))∧(((0:Int)≤(if (i28<i3) then i28 else i3))∧((if (i28<i3) then i28 else i3)≤(n14:Int))))) (
     bd (f28.l1 n n n1 l2 i3 n4 l5 n6 l7 n8 l9 x21 x24 x25 n10 l11 i12 i13 ((Int.toNat (if (i28<i3) then i28 else i3)) - 0) (List.take ((Int.toNat (if (i28<i3) then i28 else i3)) - 0) (List.drop 0 l15)) ((((Int.toNat (if (i28<i3) then i28 else i3)) - 0):Nat):Int) (0:Int)) fun r29 =>
     let n30:=r29.1
     let l31:=r29.2.1
     let i32:=r29.2.2.1
     let n33:=r29.2.2.2.1
     let l34:=r29.2.2.2.2.1
     let n35:=r29.2.2.2.2.2.1
     let l36:=r29.2.2.2.2.2.2.1
     let n37:=r29.2.2.2.2.2.2.2.1
     let l38:=r29.2.2.2.2.2.2.2.2.1
     let n39:=r29.2.2.2.2.2.2.2.2.2.1
     let l40:=r29.2.2.2.2.2.2.2.2.2.2.1
     let i41:=r29.2.2.2.2.2.2.2.2.2.2.2.1
     let i42:=r29.2.2.2.2.2.2.2.2.2.2.2.2
     f28.l0 n m n30 l31 i32 n33 l34 n35 l36 n37 l38 n39 l40 i41 (IntKind.i64.wrap (i42+(1:Int))))))))) (
    some (n4,l5,n6,l7))
termination_by structural x=>x
def f28:Nat→Nat→List T→Int→Option (DZ)
 | 0,_,_,_=>none
 | n+1,n1,l2,i3 =>
   bd (f70 n i3) fun r4 =>
   let n5:=r4.1
   let l6:=r4.2
   bd (f70 n i3) fun r7 =>
   let n8:=r7.1
   let l9:=r7.2
   bd (f71 n n1 l2) fun r10 =>
   let n11:=r10.1
   let l12:=r10.2
   bd (f28.l0 n n n1 l2 i3 n5 l6 n8 l9 n11 l12 n1 l2 (n1:Int) (0:Int)) fun r13 =>
   let n14:=r13.1
   let l15:=r13.2.1
   let n16:=r13.2.2.1
   let l17:=r13.2.2.2
   some (n14,l15,n16,l17)
def Ub:B4 (Nat × List T × Int) where
 pk:=fun (a0,a1,a2)=>[.lst a0 a1,.int a2]
 up:=fun ls=>match ls with
  | [.lst a0 a1,.int a2]=>some (a0,a1,a2)
  | _=>none
def Gc:B4 (iq) where
 pk:=fun (a0,a1,a2,a3,a4,a5,a6,a7,a8,a9,a10,a11,a12,a13,a14,a15,a16,a17,a18,a19)=>[.lst a0 a1,.int a2,.lst a3 a4,.lst a5 a6,.lst a7 a8,.flt a9,.flt a10,.flt a11,.lst a12 a13,.int a14,.int a15,.lst a16 a17,.int a18,.int a19]
 up:=fun ls=>match ls with
  | [.lst a0 a1,.int a2,.lst a3 a4,.lst a5 a6,.lst a7 a8,.flt a9,.flt a10,.flt a11,.lst a12 a13,.int a14,.int a15,.lst a16 a17,.int a18,.int a19]=>some (a0,a1,a2,a3,a4,a5,a6,a7,a8,a9,a10,a11,a12,a13,a14,a15,a16,a17,a18,a19)
  | _=>none
def IZ:B4 (fF) where
 pk:=fun (a0,a1,a2,a3,a4,a5,a6,a7,a8,a9,a10,a11,a12)=>[.lst a0 a1,.int a2,.lst a3 a4,.lst a5 a6,.lst a7 a8,.lst a9 a10,.int a11,.int a12]
 up:=fun ls=>match ls with
  | [.lst a0 a1,.int a2,.lst a3 a4,.lst a5 a6,.lst a7 a8,.lst a9 a10,.int a11,.int a12]=>some (a0,a1,a2,a3,a4,a5,a6,a7,a8,a9,a10,a11,a12)
  | _=>none
def f28.l1.P:AS:=⟨[(0,Om),(1,An),(6,Ce),(7,Ce),(8,Ce),(11,Tq),(13,Tq),(14,Tq),(25,Om),(26,An),(27,An),(58,E1),(59,An),(60,An)],0⟩
def f28.l1.A:Fy (fF):=.one (.exit 2) ⟨[(0,Om),(1,An),(6,Ce),(7,Ce),(8,Ce),(25,Om),(26,An),(27,An),(86,.dead),(87,.dead)],0⟩ IZ
def f28.l1.F (n m:Nat) (v:iq):=let (a,b,c,d,e,f,g,h,i,j,k,l,o,p,q,r,s,t,u,v):=v;f28.l1 n m a b c d e f g h i j k l o p q r s t u v
def f28.l1.W (n:Nat):GT:=.of 160 f28.l1.P Gc f28.l1.A (f28.l1.F n n)
def f28.l0.P:AS:=⟨[(0,Om),(1,An),(6,Ce),(7,Ce),(8,Ce),(25,Om),(26,An),(27,An)],0⟩
def f28.l0.A:Fy (DZ):=.one (.exit 0) ⟨[(6,Ce),(7,Ce)],0⟩ CN
def f28.l0.F (n m:Nat) (v:fF):=let (a,b,c,d,e,f,g,h,i,j,k,l,o):=v;f28.l0 n m a b c d e f g h i j k l o
def f28.l0.W (n:Nat):GT:=.of 64 f28.l0.P IZ f28.l0.A (f28.l0.F n n)
def f28.P:List Aa:=[bF,Cf]
def f28.A:AZ (DZ):=.one ⟨[EZ,EZ],[none,none]⟩ CN
def f28.F (n:Nat) (v:Nat × List T × Int):=f28 n v.1 v.2.1 v.2.2
def f28.O (n:Nat):BF:=AL (E:=E) [f32.w,f70.w,f71.w,f72.w,f73.w] [f28.l1.W n,f28.l0.W n] n
theorem f28.l1.ok:∀ n,HO 28 aU 1 n (f28.O n):=Hi f28.l1.P Gc f28.l1.A f28.l1.F
theorem f28.l0.ok:∀ n,HO 28 aU 0 n (f28.O n):=Hi f28.l0.P IZ f28.l0.A f28.l0.F [Ap aU 1] (fun n=>(.cons (f28.l1.ok n) .nil))
theorem f28.ok:Bu 28 f28.P Ub f28.A f28.F:=Bv aU f28.O [Ap aU 0] (fun n=>(.cons (f28.l0.ok n) .nil))
def f28.w:A7 E:=BL 28 f28.P Ub f28.A f28.F f28.ok
def f9:Nat→Nat→List T→Nat→List T→Int→Option (Qn)
 | 0,_,_,_,_,_=>none
 | n+1,n1,l2,n3,l4,i5 =>
   bd (f25 n n1 l2 n3 l4) fun r6 =>
   let b7:=r6
   br (!b7) (
    some (0,[],0,[],false)) (
    bd (f26 n i5) fun r8 =>
    let b9:=r8
    br (!b9) (
     some (0,[],0,[],false)) (
     bd (f9.l0 n n i5 n1 l2 n3 l4 0 [] n3 l4 (n3:Int) (0:Int)) fun r10 =>
     let i11:=r10.1
     let n12:=r10.2.1
     let l13:=r10.2.2
     bd (f28 n n12 l13 i11) fun r14 =>
     let n15:=r14.1
     let l16:=r14.2.1
     let n17:=r14.2.2.1
     let l18:=r14.2.2.2
     some (n15,l16,n17,l18,true)))
def NU:B4 (WJ) where
 pk:=fun (a0,a1,a2,a3,a4)=>[.lst a0 a1,.lst a2 a3,.int a4]
 up:=fun ls=>match ls with
  | [.lst a0 a1,.lst a2 a3,.int a4]=>some (a0,a1,a2,a3,a4)
  | _=>none
def Qw:B4 (Qn) where
 pk:=fun (a0,a1,a2,a3,a4)=>[.lst a0 a1,.lst a2 a3,.bool a4]
 up:=fun ls=>match ls with
  | [.lst a0 a1,.lst a2 a3,.bool a4]=>some (a0,a1,a2,a3,a4)
  | _=>none
def Mz:B4 (dW) where
 pk:=fun (a0,a1,a2,a3,a4,a5,a6,a7,a8,a9,a10)=>[.int a0,.lst a1 a2,.lst a3 a4,.lst a5 a6,.lst a7 a8,.int a9,.int a10]
 up:=fun ls=>match ls with
  | [.int a0,.lst a1 a2,.lst a3 a4,.lst a5 a6,.lst a7 a8,.int a9,.int a10]=>some (a0,a1,a2,a3,a4,a5,a6,a7,a8,a9,a10)
  | _=>none
def dx:B4 (Int × Nat × List T) where
 pk:=fun (a0,a1,a2)=>[.int a0,.lst a1 a2]
 up:=fun ls=>match ls with
  | [.int a0,.lst a1 a2]=>some (a0,a1,a2)
  | _=>none
def f9.l0.P:AS:=⟨[(1,An),(2,Og),(7,.val false [.sl .own [.sl .own [.leaf],.leaf,.leaf,.leaf,.leaf]] [.lst 0 []] [] 0),(21,aB),(22,An),(23,An)],0⟩
def f9.l0.A:Fy (Int × Nat × List T):=.one (.exit 0) ⟨[(1,An),(7,.val false [.sl .own [.sl .own [.leaf],.leaf,.leaf,.leaf,.leaf]] [.lst 0 []] [] 0)],0⟩ dx
def f9.l0.F (n m:Nat) (v:dW):=let (a,b,c,d,e,f,g,h,i,j,k):=v;f9.l0 n m a b c d e f g h i j k
def f9.l0.W (n:Nat):GT:=.of 80 f9.l0.P Mz f9.l0.A (f9.l0.F n n)
def f9.P:List Aa:=[SN,Cf]
def f9.A:AZ (Qn):=.one ⟨[EZ,EZ,CC],[none,none]⟩ Qw
def f9.F (n:Nat) (v:WJ):=let (a,b,c,d,e):=v;f9 n a b c d e
def f9.O (n:Nat):BF:=AL (E:=E) [f26.w,f25.w,f27.w,f28.w] [f9.l0.W n] n
theorem f9.l0.ok:∀ n,HO 9 c9 0 n (f9.O n):=Hi f9.l0.P Mz f9.l0.A f9.l0.F
theorem f9.ok:Bu 9 f9.P NU f9.A f9.F:=Bv c9 f9.O [Ap c9 0] (fun n=>(.cons (f9.l0.ok n) .nil))
def f9.w:A7 E:=BL 9 f9.P NU f9.A f9.F f9.ok
def f10:Nat→Nat→List T→Nat→List T→Int→Int→Option (Qn)
 | 0,_,_,_,_,_,_=>none
 | n+1,n1,l2,n3,l4,i5,i6 =>
   bd (f29 n i6 (1:Int) (256:Int)) fun r7 =>
   let b8:=r7
   br (!b8) (
    some (0,[],0,[],false)) (
    bd (f9 n n1 l2 n3 l4 i5) fun r9 =>
    let n10:=r9.1
    let l11:=r9.2.1
    let n12:=r9.2.2.1
    let l13:=r9.2.2.2.1
    let b14:=r9.2.2.2.2
    some (n10,l11,n12,l13,b14))
def f10.P:List Aa:=[SN,Cf,Cf]
def f10.A:AZ (Qn):=.one ⟨[EZ,EZ,CC],[none,none,none]⟩ Qw
def f10.F (n:Nat) (v:NY):=let (a,b,c,d,e,f):=v;f10 n a b c d e f
def f10.O (n:Nat):BF:=AL (E:=E) [f29.w,f9.w] [] n
theorem f10.ok:Bu 10 f10.P C6 f10.A f10.F:=Bv iX f10.O
def f10.w:A7 E:=BL 10 f10.P C6 f10.A f10.F f10.ok
def f105:Nat→Nat→Option (Int)
 | 0,_=>none
 | n+1,x1 =>
   br (Uj .f32 x1 x1) (
    some (2143289344:Int)) (
    bd (E6 n x1) fun r2 =>
    let i3:=r2
    some (IntKind.i64.wrap i3))
def f105.P:List Aa:=[EX]
def f105.A:AZ (Int):=.one ⟨[O3],[none]⟩ Gh
def f105.F (n:Nat) (v:Nat):=f105 n v
def f105.O (n:Nat):BF:=AL (E:=E) [x145.w] [] n
theorem f105.ok:Bu 105 f105.P BH f105.A f105.F:=Bv bH f105.O
def f105.w:A7 E:=BL 105 f105.P BH f105.A f105.F f105.ok
def f74:Nat→Nat→Nat→Option (Bool)
 | 0,_,_=>none
 | n+1,x1,x2 =>
   bd (f105 n x1) fun r3 =>
   let i4:=r3
   bd (f105 n x2) fun r5 =>
   let i6:=r5
   some (i4==i6)
def f74.P:List Aa:=[EX,EX]
def f74.A:AZ (Bool):=.one ⟨[CC],[none,none]⟩ Cq
def f74.F (n:Nat) (v:Nat × Nat):=f74 n v.1 v.2
def f74.O (n:Nat):BF:=AL (E:=E) [f105.w] [] n
theorem f74.ok:Bu 74 f74.P KG f74.A f74.F:=Bv gW f74.O
def f74.w:A7 E:=BL 74 f74.P KG f74.A f74.F f74.ok
def f30:Nat→Nat→Nat→Option (Bool)
 | 0,_,_=>none
 | n+1,x1,x2 =>
   bd (f74 n x1 x2) fun r3 =>
   let b4:=r3
   some b4
def f30.P:List Aa:=[EX,EX]
def f30.A:AZ (Bool):=.one ⟨[CC],[none,none]⟩ Cq
def f30.F (n:Nat) (v:Nat × Nat):=f30 n v.1 v.2
def f30.O (n:Nat):BF:=AL (E:=E) [f74.w] [] n
theorem f30.ok:Bu 30 f30.P KG f30.A f30.F:=Bv gB f30.O
def f30.w:A7 E:=BL 30 f30.P KG f30.A f30.F f30.ok
def f11.l0 (n:Nat):Nat→Nat→List T→Nat→List T→Int→Option ((Bool) ⊕ (Unit))
 | 0,_,_,_,_,_=>none
 | m+1,n1,l2,n3,l4,i5 =>
   br (decide (i5<(n1:Int))) (
    gd ((decide ((0≤i5)∧(i5<(n1:Int))))&&(AR [(.flt .f32)] l2 (Int.toNat i5))) (
    gd ((decide ((0≤i5)∧(i5<(n3:Int))))&&(AR [(.flt .f32)] l4 (Int.toNat i5))) (
    bd (f30 n (CY l2 (Int.toNat i5)) (CY l4 (Int.toNat i5))) fun r6 =>
    let b7:=r6
    br (!b7) (
     some (Sum.inl false)) (
     f11.l0 n m n1 l2 n3 l4 (IntKind.i64.wrap (i5+(1:Int))))))) (
    some (Sum.inr ()))
def f11:Nat→Nat→List T→Nat→List T→Option (Bool)
 | 0,_,_,_,_=>none
 | n+1,n1,l2,n3,l4 =>
   br ((n1:Int) != (n3:Int)) (
    some false) (
    bd (f11.l0 n n n1 l2 n3 l4 (0:Int)) fun r5 =>
    sm r5 (fun u6 =>
     let b7:=u6
     some b7) (fun u8 =>
     some true))
def f11.l0.P:AS:=⟨[(0,E1),(1,E1),(5,An)],0⟩
def f11.l0.A:Fy ((Bool) ⊕ (Unit)):=.or (.one .ret ⟨[(4,Kl)],0⟩ Cq) (.one (.exit 0) ⟨[(4,.dead)],0⟩ sg)
def f11.l0.F (n m:Nat) (v:WJ):=let (a,b,c,d,e):=v;f11.l0 n m a b c d e
def f11.l0.W (n:Nat):GT:=.of 64 f11.l0.P NU f11.l0.A (f11.l0.F n n)
def f11.P:List Aa:=[EK,EK]
def f11.A:AZ (Bool):=.one ⟨[CC],[none,none]⟩ Cq
def f11.F (n:Nat) (v:DZ):=let (a,b,c,d):=v;f11 n a b c d
def f11.O (n:Nat):BF:=AL (E:=E) [f30.w] [f11.l0.W n] n
theorem f11.l0.ok:∀ n,HO 11 dw 0 n (f11.O n):=Hi f11.l0.P NU f11.l0.A f11.l0.F
theorem f11.ok:Bu 11 f11.P CN f11.A f11.F:=Bv dw f11.O [Ap dw 0] (fun n=>(.cons (f11.l0.ok n) .nil))
def f11.w:A7 E:=BL 11 f11.P CN f11.A f11.F f11.ok
def f33.l0 (n:Nat):Nat→Nat→List T→Nat→List T→Nat→List T→Nat→List T→Nat→List T→Nat→List T→Nat→List T→Int→Int→Option (Wi)
 | 0,_,_,_,_,_,_,_,_,_,_,_,_,_,_,_,_=>none
 | m+1,n1,l2,n3,l4,n5,l6,n7,l8,n9,l10,n11,l12,n13,l14,i15,i16 =>
   br (decide (i16<i15)) (
    gd ((decide ((0≤i16)∧(i16<(n13:Int))))&&(AR [(.int .i64),(.int .i64),.lst] l14 (((Int.toNat i16) * 3)+0))) (
    let i17:=(FA l14 (((Int.toNat i16) * 3)+0))
    let i18:=(FA l14 ((((Int.toNat i16) * 3)+0)+1))
    let n19:=(HP l14 (((((Int.toNat i16) * 3)+0)+1)+1))
    let l20:=(H1 l14 (((((Int.toNat i16) * 3)+0)+1)+1))
    bd (f34 n n19 l20) fun r21 =>
    let n22:=r21.1
    let l23:=r21.2
    gd (Nat.ble (n9+1) 2147483648) (
    let n24:=(n9+1)
    let l25:=(l10++(AF (reps 1 [(T.int .i64 (0:Int)),(T.int .i64 (0:Int)),(T.lst 0 [])]) 0 [(T.int .i64 i17),(T.int .i64 i18),(T.lst n22 l23)]))
    f33.l0 n m n1 l2 n3 l4 n5 l6 n7 l8 n24 l25 n11 l12 n13 l14 i15 (IntKind.i64.wrap (i16+(1:Int)))))) (
    some (n1,l2,n3,l4,n5,l6,n7,l8,n9,l10,n11,l12))
termination_by structural x=>x
def f75.l0 (n:Nat):Nat→Nat→List T→Nat→List T→Nat→List T→Int→Int→Option (Nat × List T)
 | 0,_,_,_,_,_,_,_,_=>none
 | m+1,n1,l2,n3,l4,n5,l6,i7,i8 =>
   br (decide (i8<i7)) (
    gd ((decide ((0≤i8)∧(i8<(n5:Int))))&&(AR [(.int .i64),(.int .i64),.lst] l6 (((Int.toNat i8) * 3)+0))) (
    let i9:=(FA l6 (((Int.toNat i8) * 3)+0))
    let i10:=(FA l6 ((((Int.toNat i8) * 3)+0)+1))
    let n11:=(HP l6 (((((Int.toNat i8) * 3)+0)+1)+1))
    let l12:=(H1 l6 (((((Int.toNat i8) * 3)+0)+1)+1))
    bd (f34 n n11 l12) fun r13 =>
    let n14:=r13.1
    let l15:=r13.2
    gd (Nat.ble (n3+1) 2147483648) (
    let n16:=(n3+1)
    let l17:=(l4++(AF (reps 1 [(T.int .i64 (0:Int)),(T.int .i64 (0:Int)),(T.lst 0 [])]) 0 [(T.int .i64 i9),(T.int .i64 i10),(T.lst n14 l15)]))
    f75.l0 n m n1 l2 n16 l17 n5 l6 i7 (IntKind.i64.wrap (i8+(1:Int)))))) (
    some (n3,l4))
def f75:Nat→Nat→List T→Option (Nat × List T)
 | 0,_,_=>none
 | n+1,n1,l2 =>
   bd (f75.l0 n n n1 l2 0 [] n1 l2 (n1:Int) (0:Int)) fun r3 =>
   let n4:=r3.1
   let l5:=r3.2
   some (n4,l5)
def f75.l0.P:AS:=⟨[(0,JC),(3,Vj),(6,JC),(7,An),(8,An)],0⟩
def f75.l0.A:Fy (Nat × List T):=.one (.exit 0) ⟨[(3,Vj)],0⟩ Bp
def f75.l0.F (n m:Nat) (v:Re):=let (a,b,c,d,e,f,g,h):=v;f75.l0 n m a b c d e f g h
def f75.l0.W (n:Nat):GT:=.of 48 f75.l0.P DG f75.l0.A (f75.l0.F n n)
def f75.P:List Aa:=[V8]
def f75.A:AZ (Nat × List T):=.one ⟨[iR],[none]⟩ Bp
def f75.F (n:Nat) (v:Nat × List T):=f75 n v.1 v.2
def f75.O (n:Nat):BF:=AL (E:=E) [f34.w] [f75.l0.W n] n
theorem f75.l0.ok:∀ n,HO 75 db 0 n (f75.O n):=Hi f75.l0.P DG f75.l0.A f75.l0.F
theorem f75.ok:Bu 75 f75.P Bp f75.A f75.F:=Bv db f75.O [Ap db 0] (fun n=>(.cons (f75.l0.ok n) .nil))
def f75.w:A7 E:=BL 75 f75.P Bp f75.A f75.F f75.ok
def f33.l1 (n:Nat):Nat→Nat→List T→Nat→List T→Nat→List T→Nat→List T→Nat→List T→Nat→List T→Nat→List T→Int→Int→Option (We)
 | 0,_,_,_,_,_,_,_,_,_,_,_,_,_,_,_,_=>none
 | m+1,n1,l2,n3,l4,n5,l6,n7,l8,n9,l10,n11,l12,n13,l14,i15,i16 =>
   br (decide (i16<i15)) (
    gd ((decide ((0≤i16)∧(i16<(n13:Int))))&&(AR [.lst,(.int .i64),(.flt .f32),.bool,.bool] l14 (((Int.toNat i16) * 5)+0))) (
    let n17:=(HP l14 (((Int.toNat i16) * 5)+0))
    let l18:=(H1 l14 (((Int.toNat i16) * 5)+0))
    let i19:=(FA l14 ((((Int.toNat i16) * 5)+0)+1))
    let x20:=(CY l14 (((((Int.toNat i16) * 5)+0)+1)+1))
    let b21:=(KD l14 ((((((Int.toNat i16) * 5)+0)+1)+1)+1))
    let b22:=(KD l14 (((((((Int.toNat i16) * 5)+0)+1)+1)+1)+1))
    bd (f75 n n17 l18) fun r23 =>
    let n24:=r23.1
    let l25:=r23.2
    gd (Nat.ble (n11+1) 2147483648) (
    let n26:=(n11+1)
    let l27:=(l12++(AF (reps 1 [(T.lst 0 []),(T.int .i64 (0:Int)),(T.flt .f32 0),(T.bool false),(T.bool false)]) 0 [(T.lst n24 l25),(T.int .i64 i19),(T.flt .f32 x20),(T.bool b21),(T.bool b22)]))
    f33.l1 n m n1 l2 n3 l4 n5 l6 n7 l8 n9 l10 n26 l27 n13 l14 i15 (IntKind.i64.wrap (i16+(1:Int)))))) (
    some (n5,l6,n7,l8,n9,l10,n11,l12))
termination_by structural x=>x
def f33:Nat→Nat→List T→Nat→List T→Option (DZ)
 | 0,_,_,_,_=>none
 | n+1,n1,l2,n3,l4 =>
   bd (f33.l0 n n n1 l2 n3 l4 0 [] 0 [] 0 [] 0 [] n1 l2 (n1:Int) (0:Int)) fun r5 =>
   let n6:=r5.1
   let l7:=r5.2.1
   let n8:=r5.2.2.1
   let l9:=r5.2.2.2.1
   let n10:=r5.2.2.2.2.1
   let l11:=r5.2.2.2.2.2.1
   let n12:=r5.2.2.2.2.2.2.1
   let l13:=r5.2.2.2.2.2.2.2.1
   let n14:=r5.2.2.2.2.2.2.2.2.1
   let l15:=r5.2.2.2.2.2.2.2.2.2.1
   let n16:=r5.2.2.2.2.2.2.2.2.2.2.1
   let l17:=r5.2.2.2.2.2.2.2.2.2.2.2
   bd (f33.l1 n n n6 l7 n8 l9 n10 l11 n12 l13 n14 l15 n16 l17 n8 l9 (n8:Int) (0:Int)) fun r18 =>
   let n23:=r18.2.2.2.2.1
   let l24:=r18.2.2.2.2.2.1
   let n25:=r18.2.2.2.2.2.2.1
   let l26:=r18.2.2.2.2.2.2.2
   some (n23,l24,n25,l26)
def Fa:B4 (iG) where
 pk:=fun (a0,a1,a2,a3,a4,a5,a6,a7,a8,a9,a10,a11,a12,a13,a14,a15)=>[.lst a0 a1,.lst a2 a3,.lst a4 a5,.lst a6 a7,.lst a8 a9,.lst a10 a11,.lst a12 a13,.int a14,.int a15]
 up:=fun ls=>match ls with
  | [.lst a0 a1,.lst a2 a3,.lst a4 a5,.lst a6 a7,.lst a8 a9,.lst a10 a11,.lst a12 a13,.int a14,.int a15]=>some (a0,a1,a2,a3,a4,a5,a6,a7,a8,a9,a10,a11,a12,a13,a14,a15)
  | _=>none
def PZ:B4 (Wi) where
 pk:=fun (a0,a1,a2,a3,a4,a5,a6,a7,a8,a9,a10,a11)=>[.lst a0 a1,.lst a2 a3,.lst a4 a5,.lst a6 a7,.lst a8 a9,.lst a10 a11]
 up:=fun ls=>match ls with
  | [.lst a0 a1,.lst a2 a3,.lst a4 a5,.lst a6 a7,.lst a8 a9,.lst a10 a11]=>some (a0,a1,a2,a3,a4,a5,a6,a7,a8,a9,a10,a11)
  | _=>none
def Ua:B4 (We) where
 pk:=fun (a0,a1,a2,a3,a4,a5,a6,a7)=>[.lst a0 a1,.lst a2 a3,.lst a4 a5,.lst a6 a7]
 up:=fun ls=>match ls with
  | [.lst a0 a1,.lst a2 a3,.lst a4 a5,.lst a6 a7]=>some (a0,a1,a2,a3,a4,a5,a6,a7)
  | _=>none
def f33.l0.P:AS:=⟨[(1,Og),(2,Fq),(3,Fq),(9,JC),(10,An),(11,An)],0⟩
def f33.l0.A:Fy (Wi):=.one (.exit 0) ⟨[(1,Og),(2,Fq),(3,Fq),(43,.dead)],0⟩ PZ
def f33.l0.F (n m:Nat) (v:iG):=let (a,b,c,d,e,f,g,h,i,j,k,l,o,p,q,r):=v;f33.l0 n m a b c d e f g h i j k l o p q r
def f33.l0.W (n:Nat):GT:=.of 48 f33.l0.P Fa f33.l0.A (f33.l0.F n n)
def f33.l1.P:AS:=⟨[(1,Og),(2,Fq),(3,Fq),(27,aB),(28,An),(29,An)],0⟩
def f33.l1.A:Fy (We):=.one (.exit 2) ⟨[(2,Fq),(3,Fq)],0⟩ Ua
def f33.l1.F (n m:Nat) (v:iG):=let (a,b,c,d,e,f,g,h,i,j,k,l,o,p,q,r):=v;f33.l1 n m a b c d e f g h i j k l o p q r
def f33.l1.W (n:Nat):GT:=.of 144 f33.l1.P Fa f33.l1.A (f33.l1.F n n)
def f33.P:List Aa:=[SN]
def f33.A:AZ (DZ):=.one ⟨[YS],[none]⟩ CN
def f33.F (n:Nat) (v:DZ):=let (a,b,c,d):=v;f33 n a b c d
def f33.O (n:Nat):BF:=AL (E:=E) [f34.w,f75.w] [f33.l0.W n,f33.l1.W n] n
theorem f33.l0.ok:∀ n,HO 33 bj 0 n (f33.O n):=Hi f33.l0.P Fa f33.l0.A f33.l0.F
theorem f33.l1.ok:∀ n,HO 33 bj 1 n (f33.O n):=Hi f33.l1.P Fa f33.l1.A f33.l1.F
theorem f33.ok:Bu 33 f33.P CN f33.A f33.F:=Bv bj f33.O [Ap bj 0,Ap bj 1] (fun n=>(.cons (f33.l0.ok n) (.cons (f33.l1.ok n) .nil)))
def f33.w:A7 E:=BL 33 f33.P CN f33.A f33.F f33.ok
def f36:Nat→Nat→List T→Nat→List T→Option ((Wc) ⊕ (Wc))
 | 0,_,_,_,_=>none
 | n+1,n1,l2,n3,l4 =>
   bd (f25 n n1 l2 n3 l4) fun r5 =>
   let b6:=r5
   br (!b6) (
    some (Sum.inl (0,[],0,[],false,n1,l2,n3,l4))) (
    some (Sum.inr (n1,l2,n3,l4,true,n1,l2,n3,l4)))
def Sq:B4 (Wc) where
 pk:=fun (a0,a1,a2,a3,a4,a5,a6,a7,a8)=>[.lst a0 a1,.lst a2 a3,.bool a4,.lst a5 a6,.lst a7 a8]
 up:=fun ls=>match ls with
  | [.lst a0 a1,.lst a2 a3,.bool a4,.lst a5 a6,.lst a7 a8]=>some (a0,a1,a2,a3,a4,a5,a6,a7,a8)
  | _=>none
def f36.P:List Aa:=[⟨.io,YS⟩]
def f36.A:AZ ((Wc) ⊕ (Wc)):=.or (.one ⟨[YS,CC],[some YS]⟩ Sq) (.one ⟨[YS,CC],[some ⟨true,[.dead,.dead],[.lst 0 [],.lst 0 []]⟩]⟩ Sq)
def f36.F (n:Nat) (v:DZ):=let (a,b,c,d):=v;f36 n a b c d
def f36.O (n:Nat):BF:=AL (E:=E) [f25.w] [] n
theorem f36.ok:Bu 36 f36.P CN f36.A f36.F:=Bv iI f36.O
def f36.w:A7 E:=BL 36 f36.P CN f36.A f36.F f36.ok
def f12:Nat→Nat→List T→Nat→List T→Int→Int→Option (Qn)
 | 0,_,_,_,_,_,_=>none
 | n+1,n1,l2,n3,l4,i5,i6 =>
   bd (f25 n n1 l2 n3 l4) fun r7 =>
   let b8:=r7
   br (!b8) (
    some (0,[],0,[],false)) (
    bd (f31 n i5 (n1:Int)) fun r9 =>
    let b10:=r9
    br (!b10) (
     some (0,[],0,[],false)) (
     gd ((decide ((0≤i5)∧(i5<(n1:Int))))&&(AR [(.int .i64),(.int .i64),.lst] l2 (((Int.toNat i5) * 3)+0))) (
     bd (f32 n (((HP l2 (((((Int.toNat i5) * 3)+0)+1)+1)):Nat):Int)) fun r11 =>
     let i12:=r11
     bd (f29 n i6 (1:Int) (IntKind.i64.wrap (i12 - (1:Int)))) fun r13 =>
     let b14:=r13
     br (!b14) (
      some (0,[],0,[],false)) (
      bd (f33 n n1 l2 n3 l4) fun r15 =>
      let n16:=r15.1
      let l17:=r15.2.1
      let n18:=r15.2.2.1
      let l19:=r15.2.2.2
      gd ((decide ((0≤i5)∧(i5<(n1:Int))))&&(AR [(.int .i64),(.int .i64),.lst] l2 (((Int.toNat i5) * 3)+0))) (
      let i20:=(FA l2 (((Int.toNat i5) * 3)+0))
      let i21:=(FA l2 ((((Int.toNat i5) * 3)+0)+1))
      let n22:=(HP l2 (((((Int.toNat i5) * 3)+0)+1)+1))
      let l23:=(H1 l2 (((((Int.toNat i5) * 3)+0)+1)+1))
      gd (decide ((0≤(0:Int))∧((0≤i6)∧(i6≤(n22:Int))))) (
      bd (f34 n ((Int.toNat i6) - 0) (List.take ((Int.toNat i6) - 0) (List.drop 0 l23))) fun r24 =>
      let n25:=r24.1
      let l26:=r24.2
      gd (decide ((0≤i5)∧(i5<(n16:Int)))) (
      gd (Nat.ble ((((Int.toNat i5) * 3)+2)+1) (List.length l17)) (
      let l27:=(AF l17 (((Int.toNat i5) * 3)+2) [(T.lst n25 l26)])
      gd (decide ((0≤i6)∧((i6≤(n22:Int))∧((n22:Int)≤(n22:Int))))) (
      bd (f34 n (n22 - (Int.toNat i6)) (List.take (n22 - (Int.toNat i6)) (List.drop (Int.toNat i6) l23))) fun r28 =>
      let n29:=r28.1
      let l30:=r28.2
      bd (FY 3 n n16 l27 (IntKind.i64.wrap (i5+(1:Int))) 1 (AF (reps 1 [(T.int .i64 (0:Int)),(T.int .i64 (0:Int)),(T.lst 0 [])]) 0 (AF (AF (AF [(T.int .i64 (0:Int)),(T.int .i64 (0:Int)),(T.lst 0 [])] 0 [(T.int .i64 i20)]) 1 [(T.int .i64 (IntKind.i64.wrap (i21+i6)))]) 2 [(T.lst n29 l30)]))) fun r31 =>
      let n32:=r31.1
      let l33:=r31.2.1
      bd (f36 n n32 l33 n18 l19) fun r38 =>
      sm r38 (fun u39 =>
       let n40:=u39.1
       let l41:=u39.2.1
       let n42:=u39.2.2.1
       let l43:=u39.2.2.2.1
       let b44:=u39.2.2.2.2.1
       let n45:=u39.2.2.2.2.2.1
       let l46:=u39.2.2.2.2.2.2.1
       let n47:=u39.2.2.2.2.2.2.2.1
       let l48:=u39.2.2.2.2.2.2.2.2
       some (n40,l41,n42,l43,b44)) (fun u49 =>
       let n50:=u49.1
       let l51:=u49.2.1
       let n52:=u49.2.2.1
       let l53:=u49.2.2.2.1
       let b54:=u49.2.2.2.2.1
       let n55:=u49.2.2.2.2.2.1
       let l56:=u49.2.2.2.2.2.2.1
       let n57:=u49.2.2.2.2.2.2.2.1
       let l58:=u49.2.2.2.2.2.2.2.2
       some (n50,l51,n52,l53,b54)))))))))))
def f12.P:List Aa:=[SN,Cf,Cf]
def f12.A:AZ (Qn):=.one ⟨[YS,CC],[none,none,none]⟩ Qw
def f12.F (n:Nat) (v:NY):=let (a,b,c,d,e,f):=v;f12 n a b c d e f
def f12.O (n:Nat):BF:=AL (E:=E) [x35.w,f32.w,f29.w,f31.w,f25.w,f34.w,f33.w,f36.w] [] n
theorem f12.ok:Bu 12 f12.P C6 f12.A f12.F:=Bv gO f12.O
def f12.w:A7 E:=BL 12 f12.P C6 f12.A f12.F f12.ok
def f38:Nat→Int→Int→Int→Option (Bool)
 | 0,_,_,_=>none
 | n+1,i1,i2,i3 =>
   br (decide (i1≥i2)) (
    some (decide (i1≤i3))) (
    some false)
def f38.P:List Aa:=[Cf,Cf,Cf]
def f38.A:AZ (Bool):=.one ⟨[CC],[none,none,none]⟩ Cq
def f38.F (n:Nat) (v:Int × Int × Int):=f38 n v.1 v.2.1 v.2.2
def f38.O (n:Nat):BF:=AL (E:=E) [] [] n
theorem f38.ok:Bu 38 f38.P QQ f38.A f38.F:=Bv iQ f38.O
def f38.w:A7 E:=BL 38 f38.P QQ f38.A f38.F f38.ok
def f44:Nat→Nat→List T→Int→Nat→Bool→Bool→Nat→List T→Option (Zd)
 | 0,_,_,_,_,_,_,_,_=>none
 | n+1,n1,l2,i3,x4,b5,b6,n7,l8 =>
   some (n7,l8,i3,x4,b5,b6,n7,l8)
def La:B4 (Zd) where
 pk:=fun (a0,a1,a2,a3,a4,a5,a6,a7)=>[.lst a0 a1,.int a2,.flt a3,.bool a4,.bool a5,.lst a6 a7]
 up:=fun ls=>match ls with
  | [.lst a0 a1,.int a2,.flt a3,.bool a4,.bool a5,.lst a6 a7]=>some (a0,a1,a2,a3,a4,a5,a6,a7)
  | _=>none
def f44.P:List Aa:=[⟨.val,⟨false,[.rf .shr [.sl .shr [.leaf,.leaf,.sl .shr [.leaf]],.leaf,.leaf,.leaf,.leaf]],[.ref [.lst 0 [],.int .i64 0,.flt .f32 0,.bool false,.bool false]]⟩⟩,⟨.io,EZ⟩]
def f44.A:AZ (Zd):=.one ⟨[⟨true,[.sl .own [.leaf],.leaf,.leaf,.leaf,.leaf],[.lst 0 [],.int .i64 0,.flt .f32 0,.bool false,.bool false]⟩],[none,some ⟨false,[.dead],[.lst 0 []]⟩]⟩ La
def f44.F (n:Nat) (v:Zd):=let (a,b,c,d,e,f,g,h):=v;f44 n a b c d e f g h
def f44.O (n:Nat):BF:=AL (E:=E) [] [] n
theorem f44.ok:Bu 44 f44.P La f44.A f44.F:=Bv gF f44.O
def f44.w:A7 E:=BL 44 f44.P La f44.A f44.F f44.ok
def f93:Nat→Int→Int→Option (Int × Int)
 | 0,_,_=>none
 | n+1,i1,i2 =>
   br (i1==(0:Int)) (
    br (i1==(0:Int)) (
     some ((1:Int),(0:Int))) (
     br (i1==(1:Int)) (
      some ((5:Int),(2:Int))) (
      br (i1==(2:Int)) (
       some ((2:Int),i2)) (
       br (i1==(3:Int)) (
        some ((4:Int),(1:Int))) (
        br (i1==(5:Int)) (
         some ((0:Int),(0:Int))) (
         br (i1==(6:Int)) (
          some ((2:Int),(IntKind.i64.wrap ((1:Int)+i2)))) (
          some ((-1:Int),(-1:Int))))))))) (
    br (i1==(4:Int)) (
     some ((1:Int),(0:Int))) (
     br (i1==(1:Int)) (
      some ((5:Int),(2:Int))) (
      br (i1==(2:Int)) (
       some ((2:Int),i2)) (
       br (i1==(3:Int)) (
        some ((4:Int),(1:Int))) (
        br (i1==(5:Int)) (
         some ((0:Int),(0:Int))) (
         br (i1==(6:Int)) (
          some ((2:Int),(IntKind.i64.wrap ((1:Int)+i2)))) (
          some ((-1:Int),(-1:Int)))))))))
def f93.P:List Aa:=[Cf,Cf]
def f93.A:AZ (Int × Int):=.one ⟨[O3,O3],[none,none]⟩ Sw
def f93.F (n:Nat) (v:Int × Int):=f93 n v.1 v.2
def f93.O (n:Nat):BF:=AL (E:=E) [] [] n
theorem f93.ok:Bu 93 f93.P Sw f93.A f93.F:=Bv iD f93.O
def f93.w:A7 E:=BL 93 f93.P Sw f93.A f93.F f93.ok
def f171:Nat→Nat→Option (Bool)
 | 0,_=>none
 | n+1,x1 =>
   some (RQ .f32 (BW .f32 x1 x1) 0)
def f171.P:List Aa:=[EX]
def f171.A:AZ (Bool):=.one ⟨[CC],[none]⟩ Cq
def f171.F (n:Nat) (v:Nat):=f171 n v
def f171.O (n:Nat):BF:=AL (E:=E) [] [] n
theorem f171.ok:Bu 171 f171.P BH f171.A f171.F:=Bv bn f171.O
def f171.w:A7 E:=BL 171 f171.P BH f171.A f171.F f171.ok
def f147:Nat→Nat→Option (Bool)
 | 0,_=>none
 | n+1,x1 =>
   bd (f171 n x1) fun r2 =>
   let b3:=r2
   br b3 (
    some (H2 .f32 x1 0)) (
    some false)
def f147.P:List Aa:=[EX]
def f147.A:AZ (Bool):=.one ⟨[CC],[none]⟩ Cq
def f147.F (n:Nat) (v:Nat):=f147 n v
def f147.O (n:Nat):BF:=AL (E:=E) [f171.w] [] n
theorem f147.ok:Bu 147 f147.P BH f147.A f147.F:=Bv aI f147.O
def f147.w:A7 E:=BL 147 f147.P BH f147.A f147.F f147.ok
def f107:Nat→Int→Int→Nat→List T→Option (Bool)
 | 0,_,_,_,_=>none
 | n+1,i1,i2,n3,l4 =>
   br (i1==(2:Int)) (
    br (i1==(6:Int)) (
     bd (f38 n i2 (1:Int) (32:Int)) fun r5 =>
     let b6:=r5
     br (!b6) (
      some false) (
      bd (f93 n i1 i2) fun r7 =>
      let i8:=r7.1
      br ((n3:Int)==i8) (
       br (i1 != (6:Int)) (
        some true) (
        gd ((decide ((0≤(0:Int))∧((0:Int)<(n3:Int))))&&(AR [(.flt .f32)] l4 0)) (
        bd (f147 n (CY l4 0)) fun r10 =>
        let b11:=r10
        some b11))) (
       some false))) (
     bd (f38 n i2 (1:Int) (32:Int)) fun r12 =>
     let b13:=r12
     br (!b13) (
      some false) (
      bd (f93 n i1 i2) fun r14 =>
      let i15:=r14.1
      br ((n3:Int)==i15) (
       br (i1 != (6:Int)) (
        some true) (
        gd ((decide ((0≤(0:Int))∧((0:Int)<(n3:Int))))&&(AR [(.flt .f32)] l4 0)) (
        bd (f147 n (CY l4 0)) fun r17 =>
        let b18:=r17
        some b18))) (
       some false)))) (
    br (i1==(6:Int)) (
     bd (f38 n i2 (0:Int) (32:Int)) fun r19 =>
     let b20:=r19
     br (!b20) (
      some false) (
      bd (f93 n i1 i2) fun r21 =>
      let i22:=r21.1
      br ((n3:Int)==i22) (
       br (i1 != (6:Int)) (
        some true) (
        gd ((decide ((0≤(0:Int))∧((0:Int)<(n3:Int))))&&(AR [(.flt .f32)] l4 0)) (
        bd (f147 n (CY l4 0)) fun r24 =>
        let b25:=r24
        some b25))) (
       some false))) (
     bd (f38 n i2 (0:Int) (0:Int)) fun r26 =>
     let b27:=r26
     br (!b27) (
      some false) (
      bd (f93 n i1 i2) fun r28 =>
      let i29:=r28.1
      br ((n3:Int)==i29) (
       br (i1 != (6:Int)) (
        some true) (
        gd ((decide ((0≤(0:Int))∧((0:Int)<(n3:Int))))&&(AR [(.flt .f32)] l4 0)) (
        bd (f147 n (CY l4 0)) fun r31 =>
        let b32:=r31
        some b32))) (
       some false))))
def f107.P:List Aa:=[⟨.val,⟨false,[.rf .shr [.leaf,.leaf,.sl .shr [.leaf]]],[.ref [.int .i64 0,.int .i64 0,.lst 0 []]]⟩⟩]
def f107.A:AZ (Bool):=.one ⟨[CC],[none]⟩ Cq
def f107.F (n:Nat) (v:Te):=let (a,b,c,d):=v;f107 n a b c d
def f107.O (n:Nat):BF:=AL (E:=E) [f38.w,f93.w,f147.w] [] n
theorem f107.ok:Bu 107 f107.P HQ f107.A f107.F:=Bv aR f107.O
def f107.w:A7 E:=BL 107 f107.P HQ f107.A f107.F f107.ok
def f78.l0 (n:Nat):Nat→Nat→List T→Int→Option ((Bool) ⊕ (Nat × List T))
 | 0,_,_,_=>none
 | m+1,n1,l2,i3 =>
   br (decide (i3<(n1:Int))) (
    br (decide ((n1:Int)≤(8:Int))) (
     gd ((decide ((0≤i3)∧(i3<(n1:Int))))&&(AR [(.int .i64),(.int .i64),.lst] l2 (((Int.toNat i3) * 3)+0))) (
     bd (f107 n (FA l2 (((Int.toNat i3) * 3)+0)) (FA l2 ((((Int.toNat i3) * 3)+0)+1)) (HP l2 (((((Int.toNat i3) * 3)+0)+1)+1)) (H1 l2 (((((Int.toNat i3) * 3)+0)+1)+1))) fun r4 =>
     let b5:=r4
     br (!b5) (
      some (Sum.inl false)) (
      f78.l0 n m n1 l2 (IntKind.i64.wrap (i3+(1:Int)))))) (
     some (Sum.inr (n1,l2)))) (
    some (Sum.inr (n1,l2)))
def f78:Nat→Nat→List T→Option (Bool)
 | 0,_,_=>none
 | n+1,n1,l2 =>
   bd (f78.l0 n n n1 l2 (0:Int)) fun r3 =>
   sm r3 (fun u4 =>
    let b5:=u4
    some b5) (fun u6 =>
    let n7:=u6.1
    let l8:=u6.2
    some (decide ((n7:Int)≤(8:Int))))
def f78.l0.P:AS:=⟨[(0,JC),(3,An)],0⟩
def f78.l0.A:Fy ((Bool) ⊕ (Nat × List T)):=.or (.one .ret ⟨[(0,.dead),(2,Kl)],0⟩ Cq) (.one (.exit 0) ⟨[(0,JC),(2,.dead)],0⟩ Bp)
def f78.l0.F (n m:Nat) (v:Nat × List T × Int):=f78.l0 n m v.1 v.2.1 v.2.2
def f78.l0.W (n:Nat):GT:=.of 32 f78.l0.P Ub f78.l0.A (f78.l0.F n n)
def f78.P:List Aa:=[V8]
def f78.A:AZ (Bool):=.one ⟨[CC],[none]⟩ Cq
def f78.F (n:Nat) (v:Nat × List T):=f78 n v.1 v.2
def f78.O (n:Nat):BF:=AL (E:=E) [f107.w] [f78.l0.W n] n
theorem f78.l0.ok:∀ n,HO 78 eK 0 n (f78.O n):=Hi f78.l0.P Ub f78.l0.A f78.l0.F
theorem f78.ok:Bu 78 f78.P Bp f78.A f78.F:=Bv eK f78.O [Ap eK 0] (fun n=>(.cons (f78.l0.ok n) .nil))
def f78.w:A7 E:=BL 78 f78.P Bp f78.A f78.F f78.ok
def f80:Nat→Nat→List T→Option (Bool)
 | 0,_,_=>none
 | n+1,n1,l2 =>
   some (decide ((n1:Int)≤(256:Int)))
def f80.P:List Aa:=[EK]
def f80.A:AZ (Bool):=.one ⟨[CC],[none]⟩ Cq
def f80.F (n:Nat) (v:Nat × List T):=f80 n v.1 v.2
def f80.O (n:Nat):BF:=AL (E:=E) [] [] n
theorem f80.ok:Bu 80 f80.P Bp f80.A f80.F:=Bv gQ f80.O
def f80.w:A7 E:=BL 80 f80.P Bp f80.A f80.F f80.ok
def f108:Nat→Nat→Option (Bool)
 | 0,_=>none
 | n+1,x1 =>
   br (LH .f32 x1 0) (
    some (UM .f32 x1 1065353216)) (
    some false)
def f108.P:List Aa:=[EX]
def f108.A:AZ (Bool):=.one ⟨[CC],[none]⟩ Cq
def f108.F (n:Nat) (v:Nat):=f108 n v
def f108.O (n:Nat):BF:=AL (E:=E) [] [] n
theorem f108.ok:Bu 108 f108.P BH f108.A f108.F:=Bv bZ f108.O
def f108.w:A7 E:=BL 108 f108.P BH f108.A f108.F f108.ok
def f79.l0 (n:Nat):Nat→Nat→List T→Int→Int→Option ((Bool) ⊕ (Nat × List T))
 | 0,_,_,_,_=>none
 | m+1,n1,l2,i3,i4 =>
   br (decide (i4<i3)) (
    gd ((decide ((0≤i4)∧(i4<(n1:Int))))&&(AR [.lst,(.int .i64),(.flt .f32),.bool,.bool] l2 (((Int.toNat i4) * 5)+0))) (
    bd (f80 n (HP l2 (((Int.toNat i4) * 5)+0)) (H1 l2 (((Int.toNat i4) * 5)+0))) fun r5 =>
    let b6:=r5
    br (!b6) (
     some (Sum.inl false)) (
     gd ((decide ((0≤i4)∧(i4<(n1:Int))))&&(AR [.lst,(.int .i64),(.flt .f32),.bool,.bool] l2 (((Int.toNat i4) * 5)+0))) (
     bd (f38 n (FA l2 ((((Int.toNat i4) * 5)+0)+1)) (-2000:Int) (2000:Int)) fun r7 =>
     let b8:=r7
     br (!b8) (
      some (Sum.inl false)) (
      gd ((decide ((0≤i4)∧(i4<(n1:Int))))&&(AR [.lst,(.int .i64),(.flt .f32),.bool,.bool] l2 (((Int.toNat i4) * 5)+0))) (
      bd (f108 n (CY l2 (((((Int.toNat i4) * 5)+0)+1)+1))) fun r9 =>
      let b10:=r9
      br (!b10) (
       some (Sum.inl false)) (
       f79.l0 n m n1 l2 i3 (IntKind.i64.wrap (i4+(1:Int)))))))))) (
    some (Sum.inr (n1,l2)))
def f79:Nat→Nat→List T→Option (Bool)
 | 0,_,_=>none
 | n+1,n1,l2 =>
   bd (f79.l0 n n n1 l2 (n1:Int) (0:Int)) fun r3 =>
   sm r3 (fun u4 =>
    let b5:=u4
    some b5) (fun u6 =>
    let n7:=u6.1
    let l8:=u6.2
    some (decide ((n7:Int)≤(8:Int))))
def f79.l0.P:AS:=⟨[(0,Om),(5,An),(6,An)],0⟩
def f79.l0.A:Fy ((Bool) ⊕ (Nat × List T)):=.or (.one .ret ⟨[(0,.dead),(2,Kl)],0⟩ Cq) (.one (.exit 0) ⟨[(0,Om),(2,.dead)],0⟩ Bp)
def f79.l0.F (n m:Nat) (v:JE):=let (a,b,c,d):=v;f79.l0 n m a b c d
def f79.l0.W (n:Nat):GT:=.of 32 f79.l0.P Bf f79.l0.A (f79.l0.F n n)
def f79.P:List Aa:=[bF]
def f79.A:AZ (Bool):=.one ⟨[CC],[none]⟩ Cq
def f79.F (n:Nat) (v:Nat × List T):=f79 n v.1 v.2
def f79.O (n:Nat):BF:=AL (E:=E) [f38.w,f80.w,f108.w] [f79.l0.W n] n
theorem f79.l0.ok:∀ n,HO 79 eg 0 n (f79.O n):=Hi f79.l0.P Bf f79.l0.A f79.l0.F
theorem f79.ok:Bu 79 f79.P Bp f79.A f79.F:=Bv eg f79.O [Ap eg 0] (fun n=>(.cons (f79.l0.ok n) .nil))
def f79.w:A7 E:=BL 79 f79.P Bp f79.A f79.F f79.ok
def f37.l0 (n:Nat):Nat→Nat→List T→Nat→List T→Int→Int→Int→Option ((Bool) ⊕ (WJ))
 | 0,_,_,_,_,_,_,_=>none
 | m+1,n1,l2,n3,l4,i5,i6,i7 =>
   br (decide (i7<i6)) (
    gd ((decide ((0≤i7)∧(i7<(n3:Int))))&&(AR [.lst,(.int .i64),(.flt .f32),.bool,.bool] l4 (((Int.toNat i7) * 5)+0))) (
    bd (f44 n (HP l4 (((Int.toNat i7) * 5)+0)) (H1 l4 (((Int.toNat i7) * 5)+0)) (FA l4 ((((Int.toNat i7) * 5)+0)+1)) (CY l4 (((((Int.toNat i7) * 5)+0)+1)+1)) (KD l4 ((((((Int.toNat i7) * 5)+0)+1)+1)+1)) (KD l4 (((((((Int.toNat i7) * 5)+0)+1)+1)+1)+1)) 0 (reps 0 [(T.flt .f32 0)])) fun r8 =>
    let n9:=r8.1
    let l10:=r8.2.1
    let i11:=r8.2.2.1
    let x12:=r8.2.2.2.1
    let b13:=r8.2.2.2.2.1
    let b14:=r8.2.2.2.2.2.1
    gd ((decide ((0≤i7)∧(i7<(n3:Int))))&&(AR [.lst,(.int .i64),(.flt .f32),.bool,.bool] l4 (((Int.toNat i7) * 5)+0))) (
    bd (f78 n (HP l4 (((Int.toNat i7) * 5)+0)) (H1 l4 (((Int.toNat i7) * 5)+0))) fun r17 =>
    let b18:=r17
    br (!b18) (
     some (Sum.inl false)) (
     bd (f79 n 1 (AF (reps 1 [(T.lst 0 []),(T.int .i64 (0:Int)),(T.flt .f32 0),(T.bool false),(T.bool false)]) 0 [(T.lst n9 l10),(T.int .i64 i11),(T.flt .f32 x12),(T.bool b13),(T.bool b14)])) fun r19 =>
     let b20:=r19
     br (!b20) (
      some (Sum.inl false)) (
      f37.l0 n m n1 l2 n3 l4 i5 i6 (IntKind.i64.wrap (i7+(1:Int)))))))) (
    some (Sum.inr (n1,l2,n3,l4,i5)))
def f37.l1 (n:Nat):Nat→Nat→List T→Nat→List T→Int→Int→Int→Option ((Bool) ⊕ (Unit))
 | 0,_,_,_,_,_,_,_=>none
 | m+1,n1,l2,n3,l4,i5,i6,i7 =>
   br (decide (i7<i6)) (
    gd ((decide ((0≤i7)∧(i7<(n1:Int))))&&(AR [(.int .i64),(.int .i64),.lst] l2 (((Int.toNat i7) * 3)+0))) (
    bd (f38 n (FA l2 (((Int.toNat i7) * 3)+0)) (0:Int) (IntKind.i64.wrap (i5 - (1:Int)))) fun r8 =>
    let b9:=r8
    br (!b9) (
     some (Sum.inl false)) (
     gd ((decide ((0≤i7)∧(i7<(n1:Int))))&&(AR [(.int .i64),(.int .i64),.lst] l2 (((Int.toNat i7) * 3)+0))) (
     bd (f38 n (FA l2 ((((Int.toNat i7) * 3)+0)+1)) (0:Int) (256:Int)) fun r10 =>
     let b11:=r10
     br (!b11) (
      some (Sum.inl false)) (
      gd ((decide ((0≤i7)∧(i7<(n1:Int))))&&(AR [(.int .i64),(.int .i64),.lst] l2 (((Int.toNat i7) * 3)+0))) (
      bd (f80 n (HP l2 (((((Int.toNat i7) * 3)+0)+1)+1)) (H1 l2 (((((Int.toNat i7) * 3)+0)+1)+1))) fun r12 =>
      let b13:=r12
      br (!b13) (
       some (Sum.inl false)) (
       f37.l1 n m n1 l2 n3 l4 i5 i6 (IntKind.i64.wrap (i7+(1:Int)))))))))) (
    some (Sum.inr ()))
def f37:Nat→Nat→List T→Nat→List T→Option (Bool)
 | 0,_,_,_,_=>none
 | n+1,n1,l2,n3,l4 =>
   let i5:=(n3:Int)
   bd (f38 n i5 (1:Int) (8:Int)) fun r6 =>
   let b7:=r6
   br (!b7) (
    some false) (
    br (decide ((n1:Int)>(12:Int))) (
     some false) (
     bd (f37.l0 n n n1 l2 n3 l4 i5 (n3:Int) (0:Int)) fun r8 =>
     sm r8 (fun u9 =>
      let b10:=u9
      some b10) (fun u11 =>
      let n12:=u11.1
      let l13:=u11.2.1
      let n14:=u11.2.2.1
      let l15:=u11.2.2.2.1
      let i16:=u11.2.2.2.2
      bd (f37.l1 n n n12 l13 n14 l15 i16 (n12:Int) (0:Int)) fun r17 =>
      sm r17 (fun u18 =>
       let b19:=u18
       some b19) (fun u20 =>
       some true))))
def f37.l0.P:AS:=⟨[(0,V2),(3,An),(27,An),(28,An)],0⟩
def f37.l0.A:Fy ((Bool) ⊕ (WJ)):=.or (.one .ret ⟨[(0,.dead),(2,Kl),(3,.dead),(100,.dead)],0⟩ Cq) (.one (.exit 0) ⟨[(0,V2),(2,.dead),(3,An),(100,.dead)],0⟩ NU)
def f37.l0.F (n m:Nat) (v:Ym):=let (a,b,c,d,e,f,g):=v;f37.l0 n m a b c d e f g
def f37.l0.W (n:Nat):GT:=.of 80 f37.l0.P HF f37.l0.A (f37.l0.F n n)
def f37.l1.P:AS:=⟨[(0,V2),(3,An),(60,An),(61,An)],0⟩
def f37.l1.A:Fy ((Bool) ⊕ (Unit)):=.or (.one .ret ⟨[(2,Kl)],0⟩ Cq) (.one (.exit 2) ⟨[(2,.dead)],0⟩ sg)
def f37.l1.F (n m:Nat) (v:Ym):=let (a,b,c,d,e,f,g):=v;f37.l1 n m a b c d e f g
def f37.l1.W (n:Nat):GT:=.of 192 f37.l1.P HF f37.l1.A (f37.l1.F n n)
def f37.P:List Aa:=[⟨.val,⟨false,[.rf .shr [.sl .shr [.leaf,.leaf,.sl .shr [.leaf]],.sl .shr [.sl .shr [.leaf,.leaf,.sl .shr [.leaf]],.leaf,.leaf,.leaf,.leaf]]],[.ref [.lst 0 [],.lst 0 []]]⟩⟩]
def f37.A:AZ (Bool):=.one ⟨[CC],[none]⟩ Cq
def f37.F (n:Nat) (v:DZ):=let (a,b,c,d):=v;f37 n a b c d
def f37.O (n:Nat):BF:=AL (E:=E) [f38.w,f44.w,f78.w,f80.w,f79.w] [f37.l0.W n,f37.l1.W n] n
theorem f37.l0.ok:∀ n,HO 37 aF 0 n (f37.O n):=Hi f37.l0.P HF f37.l0.A f37.l0.F
theorem f37.l1.ok:∀ n,HO 37 aF 1 n (f37.O n):=Hi f37.l1.P HF f37.l1.A f37.l1.F
theorem f37.ok:Bu 37 f37.P CN f37.A f37.F:=Bv aF f37.O [Ap aF 0,Ap aF 1] (fun n=>(.cons (f37.l0.ok n) (.cons (f37.l1.ok n) .nil)))
def f37.w:A7 E:=BL 37 f37.P CN f37.A f37.F f37.ok
def f40:Nat→Nat→List T→Option (Nat × List T)
 | 0,_,_=>none
 | n+1,n1,l2 =>
   gd (Nat.ble (0+n1) 2147483648) (
   some ((0+n1),((reps 0 [(T.flt .f32 0)])++l2)))
def f40.P:List Aa:=[EK]
def f40.A:AZ (Nat × List T):=.one ⟨[EZ],[none]⟩ Bp
def f40.F (n:Nat) (v:Nat × List T):=f40 n v.1 v.2
def f40.O (n:Nat):BF:=AL (E:=E) [] [] n
theorem f40.ok:Bu 40 f40.P Bp f40.A f40.F:=Bv fj f40.O
def f40.w:A7 E:=BL 40 f40.P Bp f40.A f40.F f40.ok
def f81:Nat→Int→Int→Nat→List T→Option (Te)
 | 0,_,_,_,_=>none
 | n+1,i1,i2,n3,l4 =>
   bd (f40 n n3 l4) fun r5 =>
   let n6:=r5.1
   let l7:=r5.2
   some (i1,i2,n6,l7)
def f81.P:List Aa:=[⟨.val,⟨false,[.rf .shr [.leaf,.leaf,.sl .shr [.leaf]]],[.ref [.int .i64 0,.int .i64 0,.lst 0 []]]⟩⟩]
def f81.A:AZ (Te):=.one ⟨[⟨true,[.leaf,.leaf,.sl .own [.leaf]],[.int .i64 0,.int .i64 0,.lst 0 []]⟩],[none]⟩ HQ
def f81.F (n:Nat) (v:Te):=let (a,b,c,d):=v;f81 n a b c d
def f81.O (n:Nat):BF:=AL (E:=E) [f40.w] [] n
theorem f81.ok:Bu 81 f81.P HQ f81.A f81.F:=Bv gD f81.O
def f81.w:A7 E:=BL 81 f81.P HQ f81.A f81.F f81.ok
def f39.l0 (n:Nat):Nat→Nat→List T→Nat→List T→Nat→List T→Nat→List T→Nat→List T→Nat→List T→Int→Int→Option (Wi)
 | 0,_,_,_,_,_,_,_,_,_,_,_,_,_,_=>none
 | m+1,n1,l2,n3,l4,n5,l6,n7,l8,n9,l10,n11,l12,i13,i14 =>
   br (decide (i14<i13)) (
    gd ((decide ((0≤i14)∧(i14<(n1:Int))))&&(AR [(.int .i64),(.int .i64),.lst] l2 (((Int.toNat i14) * 3)+0))) (
    bd (f81 n (FA l2 (((Int.toNat i14) * 3)+0)) (FA l2 ((((Int.toNat i14) * 3)+0)+1)) (HP l2 (((((Int.toNat i14) * 3)+0)+1)+1)) (H1 l2 (((((Int.toNat i14) * 3)+0)+1)+1))) fun r15 =>
    let i16:=r15.1
    let i17:=r15.2.1
    let n18:=r15.2.2.1
    let l19:=r15.2.2.2
    gd (Nat.ble (n9+1) 2147483648) (
    let n20:=(n9+1)
    let l21:=(l10++(AF (reps 1 [(T.int .i64 (0:Int)),(T.int .i64 (0:Int)),(T.lst 0 [])]) 0 [(T.int .i64 i16),(T.int .i64 i17),(T.lst n18 l19)]))
    f39.l0 n m n1 l2 n3 l4 n5 l6 n7 l8 n20 l21 n11 l12 i13 (IntKind.i64.wrap (i14+(1:Int)))))) (
    some (n1,l2,n3,l4,n5,l6,n7,l8,n9,l10,n11,l12))
termination_by structural x=>x
def f82.l0 (n:Nat):Nat→Nat→List T→Nat→List T→Int→Int→Option (Nat × List T)
 | 0,_,_,_,_,_,_=>none
 | m+1,n1,l2,n3,l4,i5,i6 =>
   br (decide (i6<i5)) (
    gd ((decide ((0≤i6)∧(i6<(n1:Int))))&&(AR [(.int .i64),(.int .i64),.lst] l2 (((Int.toNat i6) * 3)+0))) (
    let i7:=(FA l2 (((Int.toNat i6) * 3)+0))
    let i8:=(FA l2 ((((Int.toNat i6) * 3)+0)+1))
    let n9:=(HP l2 (((((Int.toNat i6) * 3)+0)+1)+1))
    let l10:=(H1 l2 (((((Int.toNat i6) * 3)+0)+1)+1))
    bd (f40 n n9 l10) fun r11 =>
    let n12:=r11.1
    let l13:=r11.2
    gd (Nat.ble (n3+1) 2147483648) (
    let n14:=(n3+1)
    let l15:=(l4++(AF (reps 1 [(T.int .i64 (0:Int)),(T.int .i64 (0:Int)),(T.lst 0 [])]) 0 [(T.int .i64 i7),(T.int .i64 i8),(T.lst n12 l13)]))
    f82.l0 n m n1 l2 n14 l15 i5 (IntKind.i64.wrap (i6+(1:Int)))))) (
    some (n3,l4))
def f82:Nat→Nat→List T→Option (Nat × List T)
 | 0,_,_=>none
 | n+1,n1,l2 =>
   bd (f82.l0 n n n1 l2 0 (reps 0 [(T.int .i64 (0:Int)),(T.int .i64 (0:Int)),(T.lst 0 [])]) (n1:Int) (0:Int)) fun r3 =>
   let n4:=r3.1
   let l5:=r3.2
   some (n4,l5)
def f82.l0.P:AS:=⟨[(0,JC),(3,Vj),(8,An),(9,An)],0⟩
def f82.l0.A:Fy (Nat × List T):=.one (.exit 0) ⟨[(3,Vj)],0⟩ Bp
def f82.l0.F (n m:Nat) (v:NY):=let (a,b,c,d,e,f):=v;f82.l0 n m a b c d e f
def f82.l0.W (n:Nat):GT:=.of 48 f82.l0.P C6 f82.l0.A (f82.l0.F n n)
def f82.P:List Aa:=[V8]
def f82.A:AZ (Nat × List T):=.one ⟨[iR],[none]⟩ Bp
def f82.F (n:Nat) (v:Nat × List T):=f82 n v.1 v.2
def f82.O (n:Nat):BF:=AL (E:=E) [f40.w] [f82.l0.W n] n
theorem f82.l0.ok:∀ n,HO 82 eR 0 n (f82.O n):=Hi f82.l0.P C6 f82.l0.A f82.l0.F
theorem f82.ok:Bu 82 f82.P Bp f82.A f82.F:=Bv eR f82.O [Ap eR 0] (fun n=>(.cons (f82.l0.ok n) .nil))
def f82.w:A7 E:=BL 82 f82.P Bp f82.A f82.F f82.ok
def f39.l1 (n:Nat):Nat→Nat→List T→Nat→List T→Nat→List T→Nat→List T→Nat→List T→Nat→List T→Int→Int→Option (We)
 | 0,_,_,_,_,_,_,_,_,_,_,_,_,_,_=>none
 | m+1,n1,l2,n3,l4,n5,l6,n7,l8,n9,l10,n11,l12,i13,i14 =>
   br (decide (i14<i13)) (
    gd ((decide ((0≤i14)∧(i14<(n3:Int))))&&(AR [.lst,(.int .i64),(.flt .f32),.bool,.bool] l4 (((Int.toNat i14) * 5)+0))) (
    let n15:=(HP l4 (((Int.toNat i14) * 5)+0))
    let l16:=(H1 l4 (((Int.toNat i14) * 5)+0))
    let i17:=(FA l4 ((((Int.toNat i14) * 5)+0)+1))
    let x18:=(CY l4 (((((Int.toNat i14) * 5)+0)+1)+1))
    let b19:=(KD l4 ((((((Int.toNat i14) * 5)+0)+1)+1)+1))
    let b20:=(KD l4 (((((((Int.toNat i14) * 5)+0)+1)+1)+1)+1))
    bd (f82 n n15 l16) fun r21 =>
    let n22:=r21.1
    let l23:=r21.2
    gd (Nat.ble (n11+1) 2147483648) (
    let n24:=(n11+1)
    let l25:=(l12++(AF (reps 1 [(T.lst 0 []),(T.int .i64 (0:Int)),(T.flt .f32 0),(T.bool false),(T.bool false)]) 0 [(T.lst n22 l23),(T.int .i64 i17),(T.flt .f32 x18),(T.bool b19),(T.bool b20)]))
    f39.l1 n m n1 l2 n3 l4 n5 l6 n7 l8 n9 l10 n24 l25 i13 (IntKind.i64.wrap (i14+(1:Int)))))) (
    some (n5,l6,n7,l8,n9,l10,n11,l12))
termination_by structural x=>x
def f39:Nat→Nat→List T→Nat→List T→Option (DZ)
 | 0,_,_,_,_=>none
 | n+1,n1,l2,n3,l4 =>
   bd (f39.l0 n n n1 l2 n3 l4 0 [] 0 [] 0 (reps 0 [(T.int .i64 (0:Int)),(T.int .i64 (0:Int)),(T.lst 0 [])]) 0 (reps 0 [(T.lst 0 []),(T.int .i64 (0:Int)),(T.flt .f32 0),(T.bool false),(T.bool false)]) (n1:Int) (0:Int)) fun r5 =>
   let n6:=r5.1
   let l7:=r5.2.1
   let n8:=r5.2.2.1
   let l9:=r5.2.2.2.1
   let n10:=r5.2.2.2.2.1
   let l11:=r5.2.2.2.2.2.1
   let n12:=r5.2.2.2.2.2.2.1
   let l13:=r5.2.2.2.2.2.2.2.1
   let n14:=r5.2.2.2.2.2.2.2.2.1
   let l15:=r5.2.2.2.2.2.2.2.2.2.1
   let n16:=r5.2.2.2.2.2.2.2.2.2.2.1
   let l17:=r5.2.2.2.2.2.2.2.2.2.2.2
   bd (f39.l1 n n n6 l7 n8 l9 n10 l11 n12 l13 n14 l15 n16 l17 (n8:Int) (0:Int)) fun r18 =>
   let n23:=r18.2.2.2.2.1
   let l24:=r18.2.2.2.2.2.1
   let n25:=r18.2.2.2.2.2.2.1
   let l26:=r18.2.2.2.2.2.2.2
   some (n23,l24,n25,l26)
def GQ:B4 (iU) where
 pk:=fun (a0,a1,a2,a3,a4,a5,a6,a7,a8,a9,a10,a11,a12,a13)=>[.lst a0 a1,.lst a2 a3,.lst a4 a5,.lst a6 a7,.lst a8 a9,.lst a10 a11,.int a12,.int a13]
 up:=fun ls=>match ls with
  | [.lst a0 a1,.lst a2 a3,.lst a4 a5,.lst a6 a7,.lst a8 a9,.lst a10 a11,.int a12,.int a13]=>some (a0,a1,a2,a3,a4,a5,a6,a7,a8,a9,a10,a11,a12,a13)
  | _=>none
def f39.l0.P:AS:=⟨[(0,V2),(2,Fq),(3,Fq),(14,An),(15,An)],0⟩
def f39.l0.A:Fy (Wi):=.one (.exit 0) ⟨[(0,V2),(2,Fq),(3,Fq),(56,.dead)],0⟩ PZ
def f39.l0.F (n m:Nat) (v:iU):=let (a,b,c,d,e,f,g,h,i,j,k,l,o,p):=v;f39.l0 n m a b c d e f g h i j k l o p
def f39.l0.W (n:Nat):GT:=.of 48 f39.l0.P GQ f39.l0.A (f39.l0.F n n)
def f39.l1.P:AS:=⟨[(0,V2),(2,Fq),(3,Fq),(35,An),(36,An)],0⟩
def f39.l1.A:Fy (We):=.one (.exit 2) ⟨[(2,Fq),(3,Fq)],0⟩ Ua
def f39.l1.F (n m:Nat) (v:iU):=let (a,b,c,d,e,f,g,h,i,j,k,l,o,p):=v;f39.l1 n m a b c d e f g h i j k l o p
def f39.l1.W (n:Nat):GT:=.of 128 f39.l1.P GQ f39.l1.A (f39.l1.F n n)
def f39.P:List Aa:=[⟨.val,⟨false,[.rf .shr [.sl .shr [.leaf,.leaf,.sl .shr [.leaf]],.sl .shr [.sl .shr [.leaf,.leaf,.sl .shr [.leaf]],.leaf,.leaf,.leaf,.leaf]]],[.ref [.lst 0 [],.lst 0 []]]⟩⟩]
def f39.A:AZ (DZ):=.one ⟨[YS],[none]⟩ CN
def f39.F (n:Nat) (v:DZ):=let (a,b,c,d):=v;f39 n a b c d
def f39.O (n:Nat):BF:=AL (E:=E) [f81.w,f82.w] [f39.l0.W n,f39.l1.W n] n
theorem f39.l0.ok:∀ n,HO 39 bt 0 n (f39.O n):=Hi f39.l0.P GQ f39.l0.A f39.l0.F
theorem f39.l1.ok:∀ n,HO 39 bt 1 n (f39.O n):=Hi f39.l1.P GQ f39.l1.A f39.l1.F
theorem f39.ok:Bu 39 f39.P CN f39.A f39.F:=Bv bt f39.O [Ap bt 0,Ap bt 1] (fun n=>(.cons (f39.l0.ok n) (.cons (f39.l1.ok n) .nil)))
def f39.w:A7 E:=BL 39 f39.P CN f39.A f39.F f39.ok
def f13:Nat→Nat→List T→Nat→List T→Int→Int→Option (Qn)
 | 0,_,_,_,_,_,_=>none
 | n+1,n1,l2,n3,l4,i5,i6 =>
   bd (f37 n n1 l2 n3 l4) fun r7 =>
   let b8:=r7
   br (!b8) (
    some (0,[],0,[],false)) (
    bd (f38 n i5 (0:Int) (IntKind.i64.wrap ((n1:Int) - (1:Int)))) fun r9 =>
    let b10:=r9
    br (!b10) (
     some (0,[],0,[],false)) (
     gd ((decide ((0≤i5)∧(i5<(n1:Int))))&&(AR [(.int .i64),(.int .i64),.lst] l2 (((Int.toNat i5) * 3)+0))) (
     bd (f38 n i6 (1:Int) (IntKind.i64.wrap ((((HP l2 (((((Int.toNat i5) * 3)+0)+1)+1)):Nat):Int) - (1:Int)))) fun r11 =>
     let b12:=r11
     br (!b12) (
      some (0,[],0,[],false)) (
      bd (f39 n n1 l2 n3 l4) fun r13 =>
      let n14:=r13.1
      let l15:=r13.2.1
      let n16:=r13.2.2.1
      let l17:=r13.2.2.2
      gd (decide ((0≤i5)∧(i5<(n14:Int)))) (
      gd (AR [(.int .i64),(.int .i64),.lst] l15 (((Int.toNat i5) * 3)+0)) (
      gd ((AR [(.int .i64),(.int .i64),.lst] l15 (((Int.toNat i5) * 3)+0))&&true) (
      let l18:=(AF l15 (((Int.toNat i5) * 3)+0) [(T.int .i64 (FA l15 (((Int.toNat i5) * 3)+0))),(T.int .i64 (FA l15 ((((Int.toNat i5) * 3)+0)+1))),T.nil])
      let i19:=(FA l15 (((Int.toNat i5) * 3)+0))
      let i20:=(FA l15 ((((Int.toNat i5) * 3)+0)+1))
      let n21:=(HP l15 (((((Int.toNat i5) * 3)+0)+1)+1))
      let l22:=(H1 l15 (((((Int.toNat i5) * 3)+0)+1)+1))
      gd (decide ((0≤(0:Int))∧((0≤i6)∧(i6≤(n21:Int))))) (
      bd (f40 n ((Int.toNat i6) - 0) (List.take ((Int.toNat i6) - 0) (List.drop 0 l22))) fun r23 =>
      let n24:=r23.1
      let l25:=r23.2
      gd (decide ((0≤i6)∧((i6≤(n21:Int))∧((n21:Int)≤(n21:Int))))) (
      bd (f40 n (n21 - (Int.toNat i6)) (List.take (n21 - (Int.toNat i6)) (List.drop (Int.toNat i6) l22))) fun r26 =>
      let n27:=r26.1
      let l28:=r26.2
      let i29:=(IntKind.i64.wrap (i20+i6))
      gd (decide (((0:Int)≤(IntKind.i64.wrap (i5+(1:Int))))∧(((IntKind.i64.wrap (i5+(1:Int)))≤(n14:Int))∧((n14:Int)≤(n14:Int))))) (
      gd (Nat.ble (1+(n14 - (Int.toNat (IntKind.i64.wrap (i5+(1:Int)))))) 2147483648) (
      let l30:=(DL [Pm.leaf,Pm.leaf,(Pm.sl Fl.own [Pm.leaf])] (Int.toNat (IntKind.i64.wrap (i5+(1:Int)))) (n14 - (Int.toNat (IntKind.i64.wrap (i5+(1:Int))))) l18)
      let n31:=(1+(n14 - (Int.toNat (IntKind.i64.wrap (i5+(1:Int))))))
      let l32:=((AF (reps 1 [(T.int .i64 (0:Int)),(T.int .i64 (0:Int)),(T.lst 0 [])]) 0 [(T.int .i64 i19),(T.int .i64 i29),(T.lst n27 l28)])++(List.take (((n14 - (Int.toNat (IntKind.i64.wrap (i5+(1:Int))))) * 3)+0) (List.drop (((Int.toNat (IntKind.i64.wrap (i5+(1:Int)))) * 3)+0) l18)))
      gd (decide ((0≤(0:Int))∧((0≤i5)∧(i5≤(n14:Int))))) (
      gd (Nat.ble (0+((Int.toNat i5) - 0)) 2147483648) (
      gd (Nat.ble ((0+((Int.toNat i5) - 0))+1) 2147483648) (
      gd (Nat.ble (((0+((Int.toNat i5) - 0))+1)+n31) 2147483648) (
      let n33:=(((0+((Int.toNat i5) - 0))+1)+n31)
      let l34:=((((reps 0 [(T.int .i64 (0:Int)),(T.int .i64 (0:Int)),(T.lst 0 [])])++(List.take ((((Int.toNat i5) - 0) * 3)+0) (List.drop 0 l30)))++(AF (reps 1 [(T.int .i64 (0:Int)),(T.int .i64 (0:Int)),(T.lst 0 [])]) 0 [(T.int .i64 i19),(T.int .i64 i20),(T.lst n24 l25)]))++l32)
      bd (f37 n n33 l34 n16 l17) fun r35 =>
      let b36:=r35
      br (!b36) (
       some (0,[],0,[],false)) (
       some (n33,l34,n16,l17,true)))))))))))))))))
def f13.P:List Aa:=[SN,Cf,Cf]
def f13.A:AZ (Qn):=.one ⟨[YS,CC],[none,none,none]⟩ Qw
def f13.F (n:Nat) (v:NY):=let (a,b,c,d,e,f):=v;f13 n a b c d e f
def f13.O (n:Nat):BF:=AL (E:=E) [f38.w,f37.w,f40.w,f39.w] [] n
theorem f13.ok:Bu 13 f13.P C6 f13.A f13.F:=Bv gP f13.O
def f13.w:A7 E:=BL 13 f13.P C6 f13.A f13.F f13.ok
def f3:Nat→Nat→List T→Nat→List T→Option (Bool)
 | 0,_,_,_,_=>none
 | n+1,n1,l2,n3,l4 =>
   bd (f6 n n1 l2 n3 l4) fun r5 =>
   let b6:=r5
   br b6 (
    some true) (
    bd (f7 n n1 l2) fun r7 =>
    let n8:=r7.1
    let l9:=r7.2.1
    let n10:=r7.2.2.1
    let l11:=r7.2.2.2
    bd (f8 n n3 l4 (0:Int) (24:Int)) fun r12 =>
    let i13:=r12
    bd (f8 n n3 l4 (1:Int) (9:Int)) fun r14 =>
    let i15:=r14
    let i16:=(IntKind.i64.wrap ((1:Int)+i15))
    bd (f9 n n8 l9 n10 l11 i13) fun r17 =>
    let n18:=r17.1
    let l19:=r17.2.1
    let n20:=r17.2.2.1
    let l21:=r17.2.2.2.1
    let b22:=r17.2.2.2.2
    bd (f10 n n8 l9 n10 l11 i13 i16) fun r23 =>
    let n24:=r23.1
    let l25:=r23.2.1
    let n26:=r23.2.2.1
    let l27:=r23.2.2.2.1
    let b28:=r23.2.2.2.2
    br (!b22) (
     some false) (
     br (!b28) (
      some false) (
      bd (f11 n n18 l19 n24 l25) fun r29 =>
      let b30:=r29
      br (!b30) (
       some false) (
       bd (f11 n n20 l21 n26 l27) fun r31 =>
       let b32:=r31
       br (!b32) (
        some false) (
        br ((n18:Int) != i13) (
         some false) (
         bd (f8 n n3 l4 (2:Int) (4:Int)) fun r33 =>
         let i34:=r33
         bd (f8 n n3 l4 (3:Int) (6:Int)) fun r35 =>
         let i36:=r35
         let i37:=(IntKind.i64.wrap ((1:Int)+i36))
         bd (f12 n n8 l9 n10 l11 i34 i37) fun r38 =>
         let n39:=r38.1
         let l40:=r38.2.1
         let n41:=r38.2.2.1
         let l42:=r38.2.2.2.1
         let b43:=r38.2.2.2.2
         bd (f13 n n8 l9 n10 l11 i34 i37) fun r44 =>
         let b49:=r44.2.2.2.2
         br (!(b43==b49)) (
          some false) (
          br (!b43) (
           some true) (
           bd (f9 n n39 l40 n41 l42 i13) fun r50 =>
           let n51:=r50.1
           let l52:=r50.2.1
           let n53:=r50.2.2.1
           let l54:=r50.2.2.2.1
           let b55:=r50.2.2.2.2
           br b55 (
            bd (f11 n n51 l52 n18 l19) fun r56 =>
            let b57:=r56
            br b57 (
             bd (f11 n n53 l54 n20 l21) fun r58 =>
             let b59:=r58
             br b59 (
              some ((n39:Int)==(IntKind.i64.wrap ((n8:Int)+(1:Int))))) (
              some false)) (
             some false)) (
            some false)))))))))
def f3.P:List Aa:=[EK,EK]
def f3.A:AZ (Bool):=.one ⟨[CC],[none,none]⟩ Cq
def f3.F (n:Nat) (v:DZ):=let (a,b,c,d):=v;f3 n a b c d
def f3.O (n:Nat):BF:=AL (E:=E) [f6.w,f7.w,f8.w,f9.w,f10.w,f11.w,f12.w,f13.w] [] n
theorem f3.ok:Bu 3 f3.P CN f3.A f3.F:=Bv c3 f3.O
def f3.w:A7 E:=BL 3 f3.P CN f3.A f3.F f3.ok
end Go.Proofs.YtokonabdnlckdaaGreat.D
end
section
namespace Go.Proofs.YtokonabdnlckdaaGreat.D
open Go Go.Desk
set_option linter.unusedVariables false
theorem Xf (n:Nat) (bs cs:List Int):f6 (n+1) bs.length (its .u8 bs) cs.length (its .u8 cs)=some (decide (1048576<bs.length∨1048576<cs.length)):=by
 rw[f6]
 by_cases h:1048576<bs.length
 ·rw[decide_eq_true (show (bs.length:Int)>1048576 by omega),decide_eq_true (Or.inl h)];rfl
 ·rw[decide_eq_false (show ¬ (bs.length:Int)>1048576 by omega),Al]
  congr 1
  simp[h];omega
theorem QP (n:Nat) {bs:List Int} (hb:Dd bs) {i k:Int} (hi:0≤i) (hi2:i≤1000000) (hk:1≤k):∃ r,(0≤r∧r<k)∧f8 (n+1) bs.length (its .u8 bs) i k=some r:=by
 rw[f8]
 by_cases h:k≤1
 ·rw[decide_eq_true h];exact ⟨0,by omega,rfl⟩
 rw[decide_eq_false h]
 have hk0:(!decide (k=0))=true:=by simp;omega
 by_cases h2:i<(bs.length:Int)
 ·rw[decide_eq_true h2]
  obtain ⟨i,rfl⟩:=Int.eq_ofNat_of_zero_le hi
  have hi:i<bs.length:=by omega
  have hr:=hb (bs[i]) (List.getElem_mem _)
  simp only[Al,Ac,BX hi,zT,M2 hi,zA,BJ,P9,hk0]
  rw[show bs.getD i 0=bs[i] by simp[List.getD,hi],show IntKind.i64.wrap bs[i]=bs[i] by rw[A6] <;>omega]
  refine ⟨_,?_,rfl⟩
  rw[Int.tmod_eq_emod_of_nonneg (by omega)]
  have:=Int.emod_nonneg bs[i] (show k≠0 by omega)
  have:=Int.emod_lt_of_pos bs[i] (show 0<k by omega)
  omega
 ·rw[decide_eq_false h2]
  simp only[Al,hk0,BJ]
  rw[show IntKind.i64.wrap (i * 37)=i * 37 by rw[A6] <;>omega,show IntKind.i64.wrap (i * 37+11)=i * 37+11 by rw[A6] <;>omega]
  refine ⟨_,?_,rfl⟩
  rw[Int.tmod_eq_emod_of_nonneg (by omega)]
  have:=Int.emod_nonneg (i * 37+11) (show k≠0 by omega)
  have:=Int.emod_lt_of_pos (i * 37+11) (show 0<k by omega)
  omega
theorem W4 (n:Nat) {x:Nat} (h:Bj x):f105 (n+2) x=some (x:Int):=by
 rw[f105,YY]
 cases hn:isNaN .f32 x
 ·have:E6 (n+1) x=some (x:Int):=by simp[E6,hn]
  have hx:=h.1
  simp only[Al,this,AM]
  rw[A6] <;>omega
 ·rw[Ac,← h.2,BU hn];rfl
theorem Yv (n:Nat) {x y:Nat} (hx:Bj x) (hy:Bj y):f74 (n+3) x y=some (x==y):=by
 rw[f74,W4 n hx]
 simp only[AM,W4 n hy]
 congr 1
 rw[Bool.eq_iff_iff];simp;constructor <;>omega
theorem aM (n:Nat) {x y:Nat} (hx:Bj x) (hy:Bj y):f30 (n+4) x y=some (x==y):=by
 rw[f30,Yv n hx hy];rfl
theorem Oc (n:Nat):∀ (zs ys p q:List Nat) (m:Nat),ys.length=zs.length→p.length=q.length→(∀ x∈zs,Bj x)→(∀ x∈ys,Bj x)→p.length+zs.length≤1048576→zs.length<m →
  f11.l0 (n+4) m (p++zs).length (AV .f32 (p++zs)) (q++ys).length (AV .f32 (q++ys)) (p.length:Int)=some (if zs=ys then .inr () else .inl false):=by
 intro zs
 induction zs with
 | nil =>
   intro ys p q m hl hpq _ _ _ hm
   obtain ⟨m,rfl⟩:=zc m (by omega)
   obtain rfl:ys=[]:=length_eq_zero_iff.1 (by simpa using hl)
   rw[f11.l0,Gu]
   rfl
 | cons z zs ih =>
   intro ys p q m hl hpq hz hy hb hm
   obtain ⟨m,rfl⟩:=zc m (by omega)
   cases ys with
   | nil=>simp at hl
   | cons y ys =>
     rw[f11.l0,Gt,FJ]
     simp only[hpq,FJ,Cz,Cv]
     rw[← hpq]
     simp only[Cv,Dl,zA,BJ,Ac]
     rw[hpq]
     simp only[Dl]
     rw[aM n (hz z (by simp)) (hy y (by simp)),← hpq]
     simp only[AM,Jr]
     cases h:z==y
     ·simp only[beq_eq_false_iff_ne,ne_eq] at h
      simp[Al,h]
     ·simp only[beq_iff_eq] at h
      subst h
      rw[Ac,Df (z:=z) (by simp at hb;omega)]
      have:=ih ys (p++[z]) (q++[z]) m (by simpa using hl) (by simp[hpq]) (fun x hx=>hz x (by simp[hx])) (fun x hx=>hy x (by simp[hx])) (by simp at hb ⊢;omega) (by simp at hm;omega)
      simpa using this
theorem TA (n:Nat) (xs ys:List Nat) (hx:∀ x∈xs,Bj x) (hy:∀ x∈ys,Bj x) (hl:xs.length≤1048576) (hn:xs.length<n):f11 (n+5) xs.length (AV .f32 xs) ys.length (AV .f32 ys)=some (decide (xs=ys)):=by
 rw[f11]
 by_cases h:ys.length=xs.length
 ·rw[show (((xs.length:Nat):Int) != ((ys.length:Nat):Int))=false by simp[h],Al]
  have:=Oc n xs ys [] [] (n+4) h rfl hx hy (by simpa using hl) (by omega)
  simp only[nil_append,length_nil] at this
  rw[show ((0:Nat):Int)=0 from rfl] at this
  rw[this,AM]
  by_cases e:xs=ys
  ·rw[if_pos e,decide_eq_true e];rfl
  ·rw[if_neg e,decide_eq_false e];rfl
 ·rw[show (((xs.length:Nat):Int) != ((ys.length:Nat):Int))=true by simp;omega,decide_eq_false (fun e=>h (by rw[e]))]
  rfl
theorem bX (n l:Nat) (c:List T):f23 (n+1) l c=some (l,c,0,0):=by rw[f23]
theorem YL (n:Nat) {bs:List Int} (hb:Dd bs) {a:Int} (h0:0≤a) (h1:a≤1125899906842624) (sd:Int) :
  ∃ r sd',(0≤r∧r≤255)∧f95 (n+1) bs.length (its .u8 bs) a sd=some (r,bs.length,its .u8 bs,a+1,sd'):=by
 rw[f95]
 rw[show IntKind.i64.wrap (a+1)=a+1 by rw[A6] <;>omega]
 cases h:decide (a<(bs.length:Int))
 ·simp only[Al]
  cases decide (a+1≤(bs.length:Int))
  ·exact ⟨_,_,Wo _,rfl⟩
  ·exact ⟨0,_,by omega,rfl⟩
 ·simp only[decide_eq_true_eq] at h
  obtain ⟨i,rfl⟩:=Int.eq_ofNat_of_zero_le h0
  have hi:i<bs.length:=by omega
  have hr:=hb (bs[i]) (List.getElem_mem _)
  simp only[Ac,BX hi,zT,M2 hi,zA,BJ,P9]
  rw[show bs.getD i 0=bs[i] by simp[List.getD,hi],show IntKind.i64.wrap bs[i]=bs[i] by rw[A6] <;>omega]
  cases decide ((i:Int)+1≤(bs.length:Int))
  ·exact ⟨_,_,Wo _,rfl⟩
  ·exact ⟨_,_,hr,rfl⟩
theorem B8 (n:Nat) {bs:List Int} (hb:Dd bs) {a:Int} (h0:0≤a) (h1:a≤1125899906842622) (sd k:Int) :
  ∃ r a' sd',(0≤r∧(1<k→r<k)∧(k≤1→r=0))∧(a≤a'∧a'≤a+2)∧f58 (n+2) bs.length (its .u8 bs) a sd k=some (r,bs.length,its .u8 bs,a',sd'):=by
 rw[f58]
 by_cases hk:k≤1
 ·rw[decide_eq_true hk];exact ⟨0,a,sd,by omega,by omega,rfl⟩
 rw[decide_eq_false hk]
 obtain ⟨r,s1,hr,e1⟩:=YL n hb h0 (by omega) sd
 simp only[Al,e1,AM]
 have hk0:(!decide (k=0))=true:=by simp;omega
 by_cases hk2:k>200
 ·rw[decide_eq_true hk2]
  obtain ⟨r',s2,hr',e2⟩:=YL n hb (a:=a+1) (by omega) (by omega) s1
  simp only[Ac,e2,AM,hk0,BJ]
  rw[show IntKind.i64.wrap (r * 256)=r * 256 by rw[A6] <;>omega,show IntKind.i64.wrap (r * 256+r')=r * 256+r' by rw[A6] <;>omega]
  refine ⟨_,_,_,?_,?_,rfl⟩
  ·rw[Int.tmod_eq_emod_of_nonneg (by omega)]
   have:=Int.emod_nonneg (r * 256+r') (show k≠0 by omega)
   have:=Int.emod_lt_of_pos (r * 256+r') (show 0<k by omega)
   omega
  ·omega
 ·rw[decide_eq_false hk2]
  simp only[Al,hk0,BJ]
  refine ⟨_,_,_,?_,?_,rfl⟩
  ·rw[Int.tmod_eq_emod_of_nonneg (by omega)]
   have:=Int.emod_nonneg r (show k≠0 by omega)
   have:=Int.emod_lt_of_pos r (show 0<k by omega)
   omega
  ·omega
theorem F8 (n:Nat) {bs:List Int} (hb:Dd bs) {a:Int} (h0:0≤a) (h1:a≤1125899906842622) (sd k:Int) :
  ∃ r a' sd',(a≤a'∧a'≤a+2)∧f59 (n+3) bs.length (its .u8 bs) a sd k=some (r,bs.length,its .u8 bs,a',sd'):=by
 obtain ⟨r,a',s',-,ha,e⟩:=B8 n hb h0 h1 sd k
 rw[f59,e]
 exact ⟨_,_,_,ha,rfl⟩
theorem RG (n:Nat) {bs:List Int} (hb:Dd bs) {a:Int} (h0:0≤a) (h1:a≤1125899906842620) (sd:Int) :
  ∃ x a' sd',K0 x∧(a≤a'∧a'≤a+4)∧f98 (n+4) bs.length (its .u8 bs) a sd=some (x,bs.length,its .u8 bs,a',sd'):=by
 obtain ⟨r,a1,s1,hr,ha,e⟩:=B8 (n+1) hb h0 (by omega) sd 129
 obtain ⟨b,a2,s2,ha2,e2⟩:=F8 n hb (a:=a1) (by omega) (by omega) s1 4
 rw[f98,e]
 simp only[AM,e2]
 rw[show IntKind.i64.wrap (r - 64)=r - 64 by rw[A6] <;>omega]
 cases b
 ·exact ⟨_,a2,s2,⟨r - 64,by omega,.inr rfl⟩,by omega,rfl⟩
 ·exact ⟨_,a2,s2,⟨r - 64,by omega,.inl rfl⟩,by omega,rfl⟩
theorem UU (n:Nat) {bs:List Int} (hb:Dd bs) {a:Int} (h0:0≤a) (h1:a≤1125899906842622) (sd:Int) (L:List Int) (hL:0<L.length) :
  ∃ r a' sd',r∈L∧(a≤a'∧a'≤a+2)∧f128 (n+3) bs.length (its .u8 bs) a sd L.length (its .i64 L)=some (r,bs.length,its .u8 bs,a',sd',L.length,its .i64 L):=by
 obtain ⟨r,a1,s1,hr,ha,e⟩:=B8 n hb h0 h1 sd (L.length:Int)
 rw[f128,e]
 obtain ⟨i,rfl⟩:=Int.eq_ofNat_of_zero_le hr.1
 have hi:i<L.length:=by
  by_cases h:(L.length:Int)≤1
  ·have:=hr.2.2 h;omega
  ·have:=hr.2.1 (by omega);omega
 simp only[AM,BX hi,zT,M2 hi,zA,BJ,P9]
 refine ⟨_,_,_,?_,ha,rfl⟩
 rw[show L.getD i 0=L[i] by simp[List.getD,hi]]
 exact List.getElem_mem _
theorem K4 (n:Nat) {i:Int} (h0:0≤i) (h1:i<4294967296):∃ x,Bj x∧f127 (n+2) i=some x:=by
 rw[f127]
 refine ⟨As .f32 i.toNat,V3 (by omega),?_⟩
 rw[WL h0 h1]
 show bd (if 0≤i then some (As .f32 i.toNat) else none) _=_
 rw[if_pos h0];rfl
theorem Kf (n:Nat) {bs:List Int} (hb:Dd bs) {a:Int} (h0:0≤a) (h1:a≤1125899906842600) (sd:Int) :
  ∃ x a' sd',Bj x∧(a≤a'∧a'≤a+16)∧f97 (n+5) bs.length (its .u8 bs) a sd=some (x,bs.length,its .u8 bs,a',sd'):=by
 obtain ⟨b,a1,s1,ha1,e1⟩:=F8 (n+1) hb h0 (by omega) sd 12
 rw[f97,e1]
 simp only[AM,Jr]
 cases b
 ·obtain ⟨x,a2,s2,hx,ha2,e2⟩:=RG n hb (a:=a1) (by omega) (by omega) s1
  simp only[Al,e2,AM]
  exact ⟨_,_,_,hx.w32,by omega,rfl⟩
 obtain ⟨q,a2,s2,-,ha2,e2⟩:=B8 (n+2) hb (a:=a1) (by omega) (by omega) s1 4
 simp only[Ac,e2,AM]
 cases q==0
 case true =>
  obtain ⟨r,a3,s3,hr,ha3,e3⟩:=UU (n+1) hb (a:=a2) (by omega) (by omega) s2 [0,2147483648,2139095040,4286578688,2143289344,1,2139095039,8388608,8388607,2147483649] (by decide)
  have hr':0≤r∧r<4294967296:=by simp only[mem_cons,not_mem_nil,or_false] at hr;omega
  obtain ⟨x,hx,e4⟩:=K4 (n+2) hr'.1 hr'.2
  rw[Ac]
  refine ⟨x,a3,s3,hx,by omega,?_⟩
  refine Eq.trans (congrArg (fun o=>bd o _) e3) ?_
  simp only[AM,e4]
 cases q==1
 case true =>
  obtain ⟨r,a3,s3,hr,ha3,e3⟩:=B8 (n+2) hb (a:=a2) (by omega) (by omega) s2 65536
  obtain ⟨r',a4,s4,hr',ha4,e4⟩:=B8 (n+2) hb (a:=a3) (by omega) (by omega) s3 65536
  obtain ⟨x,hx,e5⟩:=K4 (n+2) (i:=r * 65536+r') (by omega) (by omega)
  simp only[Al,Ac,e3,e4,AM]
  rw[show IntKind.i64.wrap (r * 65536)=r * 65536 by rw[A6] <;>omega,show IntKind.i64.wrap (r * 65536+r')=r * 65536+r' by rw[A6] <;>omega,e5]
  exact ⟨x,_,_,hx,by omega,rfl⟩
 cases q==2
 case true =>
  obtain ⟨r,a3,s3,hr,ha3,e3⟩:=B8 (n+2) hb (a:=a2) (by omega) (by omega) s2 65536
  obtain ⟨x,hx,e5⟩:=K4 (n+2) (i:=r * 65536) (by omega) (by omega)
  simp only[Al,Ac,e3,AM]
  rw[show IntKind.i64.wrap (r * 65536)=r * 65536 by rw[A6] <;>omega,e5]
  exact ⟨x,_,_,hx,by omega,rfl⟩
 obtain ⟨x,a3,s3,hx,ha3,e3⟩:=RG n hb (a:=a2) (by omega) (by omega) s2
 obtain ⟨r,a4,s4,hr,ha4,e4⟩:=UU (n+1) hb (a:=a3) (by omega) (by omega) s3 [8388608,2130706432,1610612736,536870912] (by decide)
 have hr':0≤r∧r<4294967296:=by simp only[mem_cons,not_mem_nil,or_false] at hr;omega
 obtain ⟨y,hy,e5⟩:=K4 (n+2) hr'.1 hr'.2
 simp only[Al,e3,AM]
 refine ⟨_,a4,s4,Gy x y,by omega,?_⟩
 refine Eq.trans (congrArg (fun o=>bd o _) e4) ?_
 simp only[AM,e5]
theorem OX (n:Nat) {bs:List Int} (hb:Dd bs) (str:Bool):∀ (j m:Nat) (a sd:Int) (acc:List Nat),0≤a→a+16 * (j:Int)≤1125899906842000→acc.length+j≤2147483647→j<m→(∀ x∈acc,Bj x) →
  ∃ ys a' sd',ys.length=acc.length+j∧(∀ x∈ys,Bj x)∧(a≤a'∧a'≤a+16 * (j:Int)) ∧
   f61.l0 (n+5) m bs.length (its .u8 bs) a sd (j:Int) acc.length (AV .f32 acc) str=some (bs.length,its .u8 bs,a',sd',ys.length,AV .f32 ys):=by
 intro j
 induction j with
 | zero =>
   intro m a sd acc h0 h1 hl hm hw
   obtain ⟨m,rfl⟩:=zc m (by omega)
   rw[f61.l0]
   exact ⟨acc,a,sd,by omega,hw,by omega,rfl⟩
 | succ j ih =>
   intro m a sd acc h0 h1 hl hm hw
   obtain ⟨m,rfl⟩:=zc m (by omega)
   rw[f61.l0,decide_eq_true (show (((j+1:Nat):Int)>0) by omega),show IntKind.i64.wrap (((j+1:Nat):Int) - 1)=(j:Int) by rw[A6] <;>omega]
   have key:∀ x a1 s1,Bj x→a≤a1→a1≤a+16→∃ ys a' sd',ys.length=acc.length+(j+1)∧(∀ x∈ys,Bj x)∧(a≤a'∧a'≤a+16 * ((j+1:Nat):Int)) ∧
     f61.l0 (n+5) m bs.length (its .u8 bs) a1 s1 (j:Int) (acc++[x]).length (AV .f32 (acc++[x])) str=some (bs.length,its .u8 bs,a',sd',ys.length,AV .f32 ys):=by
    intro x a1 s1 hx h2 h3
    obtain ⟨ys,a',sd',hy,hyw,ha,e⟩:=ih m a1 s1 (acc++[x]) (by omega) (by omega) (by simp;omega) (by omega) (by
     intro y hy;simp only[mem_append,mem_singleton] at hy;rcases hy with hy | rfl
     ·exact hw y hy
     ·exact hx)
    exact ⟨ys,a',sd',by simp at hy;omega,hyw,by omega,e⟩
   simp only[Ac]
   cases str
   ·obtain ⟨x,a1,s1,hx,ha,e⟩:=RG (n+1) hb h0 (by omega) sd
    simp only[Al,e,AM,BA (show acc.length<2147483648 by omega),BJ,Dh]
    rw[show acc.length+1=(acc++[x]).length by simp]
    exact key x a1 s1 hx.w32 (by omega) (by omega)
   ·obtain ⟨x,a1,s1,hx,ha,e⟩:=Kf n hb h0 (by omega) sd
    simp only[Ac,e,AM,BA (show acc.length<2147483648 by omega),BJ,Dh]
    rw[show acc.length+1=(acc++[x]).length by simp]
    exact key x a1 s1 hx (by omega) (by omega)
theorem Xr (n:Nat) {bs:List Int} (hb:Dd bs) {a:Int} (h0:0≤a) (j:Nat) (h1:a+16 * (j:Int)≤1125899906841000) (hj:j≤2147483647) (hn:j<n) (sd:Int) :
  ∃ ys a' sd',ys.length=j∧(∀ x∈ys,Bj x)∧(a≤a'∧a'≤a+2+16 * (j:Int))∧f61 (n+6) bs.length (its .u8 bs) a sd (j:Int)=some (ys.length,AV .f32 ys,bs.length,its .u8 bs,a',sd'):=by
 obtain ⟨b,a1,s1,ha1,e1⟩:=F8 (n+2) hb h0 (by omega) sd 4
 obtain ⟨ys,a2,s2,hy,hw,ha2,e2⟩:=OX n hb b j (n+5) a1 s1 [] (by omega) (by omega) (by simp;omega) (by omega) (by simp)
 rw[f61,e1]
 refine ⟨ys,a2,s2,by simpa using hy,hw,by omega,?_⟩
 have e2:f61.l0 (n+5) (n+5) bs.length (its .u8 bs) a1 s1 (j:Int) 0 (reps 0 [(T.flt FloatKind.f32 0)]) b=some (bs.length,its .u8 bs,a2,s2,ys.length,AV .f32 ys):=e2
 simp only[AM,e2]
theorem Zw (n k:Nat) (l:List T):f80 (n+1) k l=some (decide ((k:Int)≤256)):=by rw[f80]
theorem Ud (n k:Nat) (l:List T):f66 (n+1) k l=some (decide ((k:Int)≤256)):=by rw[f66]
theorem YD (n:Nat) (a b c:Int):f38 (n+1) a b c=some (decide (b≤a∧a≤c)):=by
 rw[f38]
 by_cases h:b≤a <;>simp[br,h]
theorem QJ (n:Nat) (a b c:Int):f29 (n+1) a b c=some (decide (b≤a∧a≤c)):=by
 rw[f29]
 by_cases h:b≤a <;>simp[br,h]
theorem eE (n:Nat) {x:Nat} (h:x<4294967296):f162 (n+1) x=some (Pr x):=by
 rw[f162,← YV h]
 cases Uj .f32 x 0 <;>cases flt .f32 x 8388608 <;>rfl
theorem QO (n:Nat) {x:Nat} (h:Bj x):f134 (n+2) x=some (IV x):=by
 rw[f134,eE n h.1,AM,Jr]
 have hx:=h.1
 cases hs:Pr x
 ·rw[Al]
  unfold Pr at hs
  unfold IV
  simp at hs
  split
  ·congr 1;omega
  ·rfl
 ·have hs' :=hs
  unfold Pr at hs
  simp at hs
  have hn:isNaN .f32 x=false:=by rw[PV];simp;omega
  obtain ⟨y,e1,e2⟩:=U8 n hx hn
  rw[Ac,CP]
  simp only[AM,e1,e2]
  unfold IV
  rw[if_pos hs.2]
theorem Bc (n:Nat) {x:Nat} (b:Bool) (h:Bj x):f173 (n+3) x b=some (fl? b x):=by
 rw[f173]
 cases b
 ·rfl
 ·simp only[Ac,QO n h,AM];rfl
theorem ZE (n:Nat) (f:VY) (form:Int) (b:Bool) (m:Zn) (x:Nat) (hm:Xu m) (hx:Bj x) :
  f161 (n+4) f.1 f.2.1 f.2.2.1 f.2.2.2.1 f.2.2.2.2 form b m.1 m.2.1 m.2.2.1 m.2.2.2 x =
   some ((CL f form b m x).1,(CL f form b m x).2.1,(CL f form b m x).2.2.1,(CL f form b m x).2.2.2.1,(CL f form b m x).2.2.2.2):=by
 obtain ⟨m1,m2,m3,m4⟩:=hm
 rw[f161]
 unfold CL
 by_cases h0:form=0
 ·simp only[h0,beq_self_eq_true,Ac,if_true,Bc n b (EU _ _),AM,Bc n b hx,Bc n b m1,Bc n b m3,Bc n b (w32_fl? (b:=b) (EU _ _))]
 ·have h0':(form==0)=false:=by simp[h0]
  simp only[h0',Al,if_neg h0]
  by_cases h1:form=1
  ·simp only[h1,beq_self_eq_true,Ac,if_true,Bc n b (EU _ _),Bc n b (CO _ _),Bc n b Bw,AM]
  ·have h1':(form==1)=false:=by simp[h1]
   simp only[h1',Al,if_neg h1,Bc n b (EU _ _),AM,Bc n b (CO _ _),Bc n b (w32_fl? (b:=b) (EU _ _)),Bc n b m1,Bc n b Bw]
theorem SG (n:Nat) (f:VY) (form:Int) (b:Bool) (N:Nat) (cs:List T) (u:Zn):∀ (zs p acc:List Nat) (mm:Zn) (m:Nat),(∀ x∈zs,Bj x)→Xu mm→acc.length+zs.length<1048576→p.length+zs.length<1048576→zs.length<m →
  f132.l0 (n+4) m form b N cs f.1 f.2.1 f.2.2.1 f.2.2.2.1 f.2.2.2.2 mm.1 mm.2.1 mm.2.2.1 mm.2.2.2 u.1 u.2.1 u.2.2.1 u.2.2.2 acc.length (AV .f32 acc) (p++zs).length (AV .f32 (p++zs)) ((p++zs).length:Int) (p.length:Int) =
   some ((Ai (CL f form b) mm zs).2.1,(Ai (CL f form b) mm zs).2.2.1,(Ai (CL f form b) mm zs).2.2.2.1,(Ai (CL f form b) mm zs).2.2.2.2,u.1,u.2.1,u.2.2.1,u.2.2.2,(acc++(Ai (CL f form b) mm zs).1).length,AV .f32 (acc++(Ai (CL f form b) mm zs).1)):=by
 intro zs
 induction zs with
 | nil =>
   intro p acc mm m _ _ _ _ hm
   obtain ⟨m,rfl⟩:=zc m (by omega)
   rw[f132.l0,Gu]
   simp[Al,Ai]
 | cons z zs ih =>
   intro p acc mm m hz hmm ha hp hm
   obtain ⟨m,rfl⟩:=zc m (by omega)
   have hp':p.length<1048576:=by simp at hp;omega
   have ha':acc.length<1048576:=by simp at ha;omega
   have hw:=hz z (by simp)
   rw[f132.l0,Gt,FJ,Cz,Cv,Dl]
   simp only[Ac,BJ,zA,ZE n f form b mm z hmm hw,AM,BA (show acc.length<2147483648 by omega),Dh,Df (z:=z) (show p.length<4611686018427387904 by omega)]
   have:=ih (p++[z]) (acc++[(CL f form b mm z).1]) (CL f form b mm z).2 m (fun x hx=>hz x (by simp[hx])) (PS hmm hw).2 (by simp at ha ⊢;omega) (by simp at hp ⊢;omega) (by simp at hm;omega)
   simpa [Ai] using this
theorem bO (n:Nat) (f:VY) (form:Int) (b:Bool) (mm:Zn) (xs:List Nat) (hx:∀ x∈xs,Bj x) (hm:Xu mm) (hl:xs.length<1048576) (hn:xs.length<n) :
  f132 (n+5) f.1 f.2.1 f.2.2.1 f.2.2.2.1 f.2.2.2.2 form b mm.1 mm.2.1 mm.2.2.1 mm.2.2.2 xs.length (AV .f32 xs) =
   some ((Ai (CL f form b) mm xs).1.length,AV .f32 (Ai (CL f form b) mm xs).1,(Ai (CL f form b) mm xs).2.1,(Ai (CL f form b) mm xs).2.2.1,(Ai (CL f form b) mm xs).2.2.2.1,(Ai (CL f form b) mm xs).2.2.2.2):=by
 rw[f132]
 have e:=SG n f form b xs.length (AV .f32 xs) (0,0,0,0) xs [] [] mm (n+4) hx hm (by simpa using hl) (by simpa using hl) (by omega)
 have e:f132.l0 (n+4) (n+4) form b xs.length (AV .f32 xs) f.1 f.2.1 f.2.2.1 f.2.2.2.1 f.2.2.2.2 mm.1 mm.2.1 mm.2.2.1 mm.2.2.2 0 0 0 0 0 [] xs.length (AV .f32 xs) (xs.length:Int) 0=_:=e
 rw[e];rfl
theorem Fx (n:Nat) {bs:List Int} (hb:Dd bs) {a:Int} (h0:0≤a) (h1:a≤1125899906842500) (sd:Int) :
  ∃ x a' sd',Bj x∧(a≤a'∧a'≤a+20)∧f157 (n+6) bs.length (its .u8 bs) a sd=some (x,bs.length,its .u8 bs,a',sd'):=by
 obtain ⟨b,a1,s1,ha1,e1⟩:=F8 (n+2) hb h0 (by omega) sd 8
 rw[f157,e1]
 simp only[AM]
 cases b
 ·obtain ⟨c,a2,s2,ha2,e2⟩:=F8 (n+2) hb (a:=a1) (by omega) (by omega) s1 3
  simp only[Al,e2,AM]
  cases c
  ·obtain ⟨r,a3,s3,hr,ha3,e3⟩:=B8 (n+3) hb (a:=a2) (by omega) (by omega) s2 33
   simp only[Al,e3,AM]
   exact ⟨_,a3,s3,EO _ _,by omega,rfl⟩
  ·exact ⟨0,a2,s2,Bw,by omega,rfl⟩
 ·obtain ⟨x,a2,s2,hx,ha2,e2⟩:=Kf n hb (a:=a1) (by omega) (by omega) s1
  simp only[Ac,e2,AM]
  exact ⟨x,a2,s2,hx,by omega,rfl⟩
theorem YG (n:Nat) {bs:List Int} (hb:Dd bs) {a:Int} (h0:0≤a) (h1:a≤1125899906842000) (sd:Int) :
  ∃ (f:VY) (a' sd':Int),(Bj f.1∧Bj f.2.1∧Bj f.2.2.1∧Bj f.2.2.2.1∧Bj f.2.2.2.2)∧(a≤a'∧a'≤a+200)∧f125 (n+7) bs.length (its .u8 bs) a sd=some (f.1,f.2.1,f.2.2.1,f.2.2.2.1,f.2.2.2.2,bs.length,its .u8 bs,a',sd'):=by
 obtain ⟨x1,a1,s1,w1,ha1,e1⟩:=Fx n hb h0 (by omega) sd
 obtain ⟨x2,a2,s2,w2,ha2,e2⟩:=Fx n hb (a:=a1) (by omega) (by omega) s1
 obtain ⟨x3,a3,s3,w3,ha3,e3⟩:=Fx n hb (a:=a2) (by omega) (by omega) s2
 obtain ⟨r4,a4,s4,-,ha4,e4⟩:=B8 (n+4) hb (a:=a3) (by omega) (by omega) s3 15
 obtain ⟨r5,a5,s5,-,ha5,e5⟩:=B8 (n+4) hb (a:=a4) (by omega) (by omega) s4 7
 obtain ⟨b6,a6,s6,ha6,e6⟩:=F8 (n+3) hb (a:=a5) (by omega) (by omega) s5 4
 rw[f125,e1]
 simp only[AM,e2,e3,e4,e5,e6]
 cases b6
 ·obtain ⟨b7,a7,s7,ha7,e7⟩:=F8 (n+3) hb (a:=a6) (by omega) (by omega) s6 4
  simp only[Al,e7,AM]
  cases b7
  ·exact ⟨(x1,x2,x3,_,_),a7,s7,⟨w1,w2,w3,EO _ _,EO _ _⟩,by omega,rfl⟩
  ·obtain ⟨x8,a8,s8,w8,ha8,e8⟩:=Fx n hb (a:=a7) (by omega) (by omega) s7
   simp only[Ac,e8,AM]
   exact ⟨(x1,x2,x3,_,x8),a8,s8,⟨w1,w2,w3,EO _ _,w8⟩,by omega,rfl⟩
 ·obtain ⟨x7,a7,s7,w7,ha7,e7⟩:=Fx n hb (a:=a6) (by omega) (by omega) s6
  obtain ⟨b8,a8,s8,ha8,e8⟩:=F8 (n+3) hb (a:=a7) (by omega) (by omega) s7 4
  simp only[Ac,e7,e8,AM]
  cases b8
  ·exact ⟨(x1,x2,x3,x7,_),a8,s8,⟨w1,w2,w3,w7,EO _ _⟩,by omega,rfl⟩
  ·obtain ⟨x9,a9,s9,w9,ha9,e9⟩:=Fx n hb (a:=a8) (by omega) (by omega) s8
   simp only[Ac,e9,AM]
   exact ⟨(x1,x2,x3,x7,x9),a9,s9,⟨w1,w2,w3,w7,w9⟩,by omega,rfl⟩
theorem HD (n k:Nat) (h:k≤2147483648):f70 (n+1) (k:Int)=some (k,AV .f32 (List.replicate k 0)):=by
 rw[f70,decide_eq_true (show (0:Int)≤(k:Int)∧(k:Int)≤2147483648 by omega),BJ,zT,XC]
theorem Hr (n:Nat) (xs:List Nat) (h:xs.length≤2147483648):f34 (n+1) xs.length (AV .f32 xs)=some (xs.length,AV .f32 xs):=by
 rw[f34,Nat.zero_add,Qt h];rfl
theorem Yk (n:Nat) (w:Nat) (ws:List Nat) (x:Nat) (h:ws.length<2147483648):f133 (n+2) (w::ws).length (AV .f32 (w::ws)) x=some ((ws++[x]).length,AV .f32 (ws++[x])):=by
 rw[f133,decide_eq_true (by simp;omega:(0:Int)≤1∧(1:Int)≤((w::ws).length:Int)∧((w::ws).length:Int)≤((w::ws).length:Int)),Kh,Gv]
 rw[show (w::ws).length - 1=ws.length by simp,show ((w::ws).drop 1).take ws.length=ws by simp,Hr n ws (by omega)]
 simp only[BJ,AM,BA h,Dh]
 rw[Bb (z:=x)]
theorem Qg (n:Nat) (x:Int):f32 (n+1) x=some x:=by rw[f32]
theorem XD (n:Nat) (x:Nat):f160 (n+1) x=some (CW x):=by rw[f160,OH]
theorem Qy (n:Nat) (N:Nat) (cs:List T) (by_:Nat):∀ (zs p acc:List Nat) (m:Nat),acc.length+zs.length<1048576→p.length+zs.length<1048576→zs.length<m →
  f131.l0 n m N cs by_ acc.length (AV .f32 acc) (p++zs).length (AV .f32 (p++zs)) ((p++zs).length:Int) (p.length:Int)=some ((acc++zs.map fun z=>AT .f32 z by_).length,AV .f32 (acc++zs.map fun z=>AT .f32 z by_)):=by
 intro zs
 induction zs with
 | nil =>
   intro p acc m _ _ hm
   obtain ⟨m,rfl⟩:=zc m (by omega)
   rw[f131.l0,Gu]
   simp[Al]
 | cons z zs ih =>
   intro p acc m ha hp hm
   obtain ⟨m,rfl⟩:=zc m (by omega)
   have ha':acc.length<1048576:=by simp at ha;omega
   rw[f131.l0,Gt,FJ,Cz,Cv,Dl]
   have:=ih (p++[z]) (acc++[AT .f32 z by_]) m (by simp at ha ⊢;omega) (by simp at hp ⊢;omega) (by simp at hm;omega)
   simp only[Ac,BJ,zA,Dh,BA (show acc.length<2147483648 by omega),Df (z:=z) (show p.length<4611686018427387904 by simp at hp;omega)]
   simpa using this
theorem VT (n:Nat) (xs:List Nat) (by_:Nat) (hx:xs.length<1048576) (hn:xs.length<n):f131 (n+1) xs.length (AV .f32 xs) by_=some ((xs.map fun z=>AT .f32 z by_).length,AV .f32 (xs.map fun z=>AT .f32 z by_)):=by
 rw[f131]
 have e:=Qy n xs.length (AV .f32 xs) by_ xs [] [] n (by simpa using hx) (by simpa using hx) (by omega)
 have e:f131.l0 n n xs.length (AV .f32 xs) by_ 0 [] xs.length (AV .f32 xs) (xs.length:Int) 0=some ((xs.map fun z=>AT .f32 z by_).length,AV .f32 (xs.map fun z=>AT .f32 z by_)):=e
 rw[e];rfl
theorem Jf (n:Nat) {x:Nat} (hg:Bj x):f177 (n+2) x=some (B6 x):=by
 obtain ⟨h1,h2⟩:=XK hg.1 hg.2 n
 rw[f177,CP]
 simp only[bd,h1,h2]
def GW (m:Nat) (xs:List Nat):Nat:=xs.foldl (fun m x=>if H2 .f32 (B6 x) m then B6 x else m) m
theorem SA (n:Nat) (N:Nat) (cs:List T):∀ (zs p:List Nat) (mx m:Nat),(∀ x∈zs,Bj x)→p.length+zs.length<1048576→zs.length<m →
  f166.l0 (n+2) m N cs mx (p++zs).length (AV .f32 (p++zs)) ((p++zs).length:Int) (p.length:Int)=some (GW mx zs):=by
 intro zs
 induction zs with
 | nil =>
   intro p mx m _ _ hm
   obtain ⟨m,rfl⟩:=zc m (by omega)
   rw[f166.l0,Gu];rfl
 | cons z zs ih =>
   intro p mx m hz hp hm
   obtain ⟨m,rfl⟩:=zc m (by omega)
   have ih' :=fun mx=>ih (p++[z]) mx m (fun x hx=>hz x (by simp[hx])) (by simp at hp ⊢;omega) (by simp at hm;omega)
   simp only[append_assoc,cons_append,nil_append] at ih'
   rw[f166.l0,Gt,FJ,Cz,Cv,Dl]
   simp only[Ac,BJ,zA,Jf n (hz z (by simp)),AM,Df (z:=z) (show p.length<4611686018427387904 by simp at hp;omega)]
   show _=some (GW (if H2 .f32 (B6 z) mx then B6 z else mx) zs)
   cases H2 .f32 (B6 z) mx
   ·exact ih' mx
   ·exact ih' _
theorem bA (n:Nat) (xs:List Nat) (hx:∀ x∈xs,Bj x) (hl:xs.length<1048576) (hn:xs.length<n):f166 (n+3) xs.length (AV .f32 xs)=some (GW 0 xs):=by
 rw[f166]
 have e:=SA n xs.length (AV .f32 xs) xs [] 0 (n+2) hx (by simpa using hl) (by omega)
 have e:f166.l0 (n+2) (n+2) xs.length (AV .f32 xs) 0 xs.length (AV .f32 xs) (xs.length:Int) 0=some (GW 0 xs):=e
 rw[e];rfl
theorem cQ (n:Nat) (a r:Nat) {l x:Nat} (hx:Bj x):f175 (n+3) a r l x=some (a,r,J1 a r l x):=by
 rw[f175,Jf n hx]
 unfold J1
 simp only[AM,QO n (CO _ _)]
 cases H2 .f32 (B6 x) l <;>rfl
theorem Zz (n l t q:Nat):f176 (n+1) l t q=some (Ui l t q):=by
 rw[f176]
 unfold Ui
 cases H2 .f32 l t <;>rfl
theorem R0 (n:Nat) (a r t q u1 u2 u3 u4 u5:Nat) (M:Nat) (cs:List T):∀ (zs ys p s acc:List Nat) (l m:Nat),ys.length=zs.length→s.length=p.length→(∀ x∈ys,Bj x)→acc.length+zs.length<1048576→p.length+zs.length<1048576→zs.length<m →
  f164.l0 (n+3) m M cs (s++ys).length (AV .f32 (s++ys)) a r l t q u1 u2 u3 u4 u5 acc.length (AV .f32 acc) (p++zs).length (AV .f32 (p++zs)) ((p++zs).length:Int) (p.length:Int) =
   some (a,r,(Ai (CE a r t q) l (zs.zip ys)).2,t,q,u1,u2,u3,u4,u5,(acc++(Ai (CE a r t q) l (zs.zip ys)).1).length,AV .f32 (acc++(Ai (CE a r t q) l (zs.zip ys)).1)):=by
 intro zs
 induction zs with
 | nil =>
   intro ys p s acc l m _ _ _ _ _ hm
   obtain ⟨m,rfl⟩:=zc m (by omega)
   rw[f164.l0,Gu];simp[Al,Ai]
 | cons z zs ih =>
   intro ys p s acc l m hl hs hy ha hp hm
   obtain ⟨m,rfl⟩:=zc m (by omega)
   cases ys with
   | nil=>simp at hl
   | cons y ys =>
     have e1:AR [.flt .f32] (AV .f32 (s++y::ys)) p.length=true:=by rw[← hs];exact Cv
     have e2:CY (AV .f32 (s++y::ys)) p.length=y:=by rw[← hs];exact Dl
     have e3:decide ((0:Int)≤(p.length:Int)∧(p.length:Int)<((s++y::ys).length:Int))=true:=by rw[← hs];exact FJ
     have ha':acc.length<1048576:=by simp at ha;omega
     rw[f164.l0,Gt,FJ,Cz,Cv,Dl,e1,e2,e3]
     simp only[Ac,BJ,zA,cQ n a r (hy y (by simp)),Zz (n+2),AM,BA (show acc.length<2147483648 by omega),Dh,Df (z:=z) (show p.length<4611686018427387904 by simp at hp;omega)]
     have:=ih ys (p++[z]) (s++[y]) (acc++[AT .f32 z (Ui (J1 a r l y) t q)]) (J1 a r l y) m (by simpa using hl) (by simp[hs]) (fun x hx=>hy x (by simp[hx])) (by simp at ha ⊢;omega) (by simp at hp ⊢;omega) (by simp at hm;omega)
     simpa [Ai,CE] using this
theorem aw (n:Nat) (a r l t q:Nat) (xs ys:List Nat) (hy:∀ x∈ys,Bj x) (hlen:ys.length=xs.length) (hl:xs.length≤256) (hn:xs.length<n) :
  f164 (n+4) a r l t q xs.length (AV .f32 xs) ys.length (AV .f32 ys)=some ((Ai (CE a r t q) l (xs.zip ys)).1.length,AV .f32 (Ai (CE a r t q) l (xs.zip ys)).1,a,r,(Ai (CE a r t q) l (xs.zip ys)).2,t,q,true):=by
 rw[f164,Ud,decide_eq_true (show (xs.length:Int)≤256 by omega),show (((ys.length:Nat):Int) != ((xs.length:Nat):Int))=false by simp[hlen]]
 have e:=R0 n a r t q 0 0 0 0 0 xs.length (AV .f32 xs) xs ys [] [] [] l (n+3) hlen rfl hy (by simp;omega) (by simp;omega) (by omega)
 have e:f164.l0 (n+3) (n+3) xs.length (AV .f32 xs) ys.length (AV .f32 ys) a r l t q 0 0 0 0 0 0 [] xs.length (AV .f32 xs) (xs.length:Int) 0=_:=e
 simp only[AM,Jr,Ac,Al,e];rfl
theorem Qc (n:Nat) (a r l t q:Nat) (xs:List Nat) (hx:∀ x∈xs,Bj x) (hl:xs.length≤256) (hn:xs.length<n) :
  f135 (n+5) a r l t q xs.length (AV .f32 xs)=some ((Ai (CE a r t q) l (xs.zip xs)).1.length,AV .f32 (Ai (CE a r t q) l (xs.zip xs)).1,a,r,(Ai (CE a r t q) l (xs.zip xs)).2,t,q,true):=by
 rw[f135]
 simp only[aw n a r l t q xs xs hx rfl hl hn,AM]
def HB (lim x:Nat):Nat:=if H2 .f32 (B6 x) lim then (if flt .f32 x 0 then K7 .f32 lim else lim) else x
def Pw (lim p:Nat):Nat:=if H2 .f32 p lim then fdiv .f32 lim p else 1065353216
def OK (t gn:Nat):Nat:=if flt .f32 t gn then t else if Uj .f32 gn gn then t else gn
def Am (lim rise:Nat) (s:Nat × List Nat) (x:Nat):Nat × (Nat × List Nat) :=
 (HB lim (AT .f32 ((s.2++[x]).getD 0 0) (OK (Pw lim (GW 0 (s.2++[x]))) (BD .f32 s.1 rise))),(OK (Pw lim (GW 0 (s.2++[x]))) (BD .f32 s.1 rise),(s.2++[x]).drop 1))
theorem S2 {lim x:Nat} (hl:Bj lim) (hx:Bj x):Bj (HB lim x):=by
 unfold HB
 split
 ·split
  ·exact YE hl
  ·exact hl
 ·exact hx
theorem UO:Bj 1065353216:=⟨by decide,by decide⟩
theorem Sh {t gn:Nat} (ht:Bj t) (hg:Bj gn):Bj (OK t gn):=by
 unfold OK
 split
 ·exact ht
 ·split
  ·exact ht
  ·exact hg
theorem Sc {lim p:Nat}:Bj (Pw lim p):=by
 unfold Pw
 split
 ·exact EO _ _
 ·exact UO
theorem TT (lim rise:Nat):∀ (xs:List Nat) (s:Nat × List Nat),(Ai (Am lim rise) s xs).2.2.length=s.2.length:=by
 intro xs
 induction xs with
 | nil=>intro s;rfl
 | cons x xs ih =>
   intro s
   simp only[Ai]
   rw[ih]
   simp[Am]
theorem Xl (n:Nat) (lim:Nat) {x:Nat} (hx:Bj x):f165 (n+3) x lim=some (HB lim x):=by
 rw[f165,Jf n hx]
 simp only[AM,Jr]
 unfold HB
 cases H2 .f32 (B6 x) lim <;>cases flt .f32 x 0 <;>rfl
theorem T1 (n:Nat) (N:Nat) (cs:List T) (lim rise x8 x9 x10 n11:Nat) (l12:List T) (hl:Bj lim):∀ (zs p acc:List Nat) (s:Nat × List Nat) (m:Nat),(∀ x∈zs,Bj x)→(Bj s.1∧GF s.2)→s.2.length≤64→acc.length+zs.length<1048576→p.length+zs.length<1048576→zs.length<m →
  f138.l0 (n+100) m N cs lim rise s.1 s.2.length (AV .f32 s.2) x8 x9 x10 n11 l12 acc.length (AV .f32 acc) (p++zs).length (AV .f32 (p++zs)) ((p++zs).length:Int) (p.length:Int) =
   some (lim,rise,(Ai (Am lim rise) s zs).2.1,(Ai (Am lim rise) s zs).2.2.length,AV .f32 (Ai (Am lim rise) s zs).2.2,x8,x9,x10,n11,l12,(acc++(Ai (Am lim rise) s zs).1).length,AV .f32 (acc++(Ai (Am lim rise) s zs).1)):=by
 intro zs
 induction zs with
 | nil =>
   intro p acc s m _ _ _ _ _ hm
   obtain ⟨m,rfl⟩:=zc m (by omega)
   rw[f138.l0,Gu]
   simp[Al,Ai]
 | cons z zs ih =>
   intro p acc s m hz hs hw ha hp hm
   obtain ⟨m,rfl⟩:=zc m (by omega)
   have hp':p.length<1048576:=by simp at hp;omega
   have ha':acc.length<1048576:=by simp at ha;omega
   have hall:GF (s.2++[z]):=fun y hy=>by
    simp only[mem_append,mem_singleton] at hy
    rcases hy with h | rfl
    ·exact hs.2 y h
    ·exact hz _ (by simp)
   have hpk:=bA (n+97) (s.2++[z]) hall (by simp;omega) (by simp;omega)
   have hlen:s.2.length+1=(s.2++[z]).length:=by simp
   have c1:decide ((0:Int)≤1∧(1:Int)≤((s.2++[z]).length:Int)∧((s.2++[z]).length:Int)≤((s.2++[z]).length:Int))=true:=decide_eq_true (by simp;omega)
   have c2:((AV .f32 (s.2++[z])).drop 1).take ((s.2++[z]).length - 1)=AV .f32 ((s.2++[z]).drop 1):=by
    rw[Kh,Gv,take_of_length_le (by simp)]
   have c3:decide ((0:Int)≤0∧(0:Int)<((s.2++[z]).length:Int))=true:=decide_eq_true (by simp)
   have c4:AR [.flt .f32] (AV .f32 (s.2++[z])) 0=true:=B9 (by simp)
   have c5:(s.2++[z]).length - 1=((s.2++[z]).drop 1).length:=by simp
   rw[c5] at c2
   have c6:Nat.ble (s.2++[z]).length 2147483648=true:=Qt (by simp;omega)
   have ih' :=ih (p++[z]) (acc++[(Am lim rise s z).1]) (Am lim rise s z).2 m (fun x hx=>hz x (by simp[hx]))
    ⟨Sh Sc (CO _ _),fun y hy=>hall y (mem_of_mem_drop hy)⟩ (by simp[Am];omega) (by simp at ha ⊢;omega) (by simp at hp ⊢;omega) (by simp at hm;omega)
   rw[show p++[z]++zs=p++z::zs by simp] at ih'
   rw[f138.l0,Gt,FJ,Cz,Cv,Dl]
   simp only[Ac,BJ,zA,Hr (n+99) s.2 (by omega),AM,Dh,hlen,hpk,c1,c2,c3,c4,Em,c6,Xl (n+97) lim (Gy _ _),BA (show acc.length<2147483648 by omega),Df (z:=z) (show p.length<4611686018427387904 by omega),c5]
   have e1:Ai (Am lim rise) s (z::zs)=((Am lim rise s z).1::(Ai (Am lim rise) (Am lim rise s z).2 zs).1,(Ai (Am lim rise) (Am lim rise s z).2 zs).2):=rfl
   rw[e1]
   have e2:∀ t gn,Pw lim (GW 0 (s.2++[z]))=t→BD .f32 s.1 rise=gn→∀ g,OK t gn=g→Am lim rise s z=(HB lim (AT .f32 ((s.2++[z]).getD 0 0) g),(g,(s.2++[z]).drop 1)):=by
    rintro t gn rfl rfl g rfl
    rfl
   have e3:acc++(Am lim rise s z).1::(Ai (Am lim rise) (Am lim rise s z).2 zs).1=(acc++[(Am lim rise s z).1])++(Ai (Am lim rise) (Am lim rise s z).2 zs).1:=by simp
   have e4:(acc++[(Am lim rise s z).1]).length=acc.length+1:=by simp
   simp only[e3]
   rw[e4] at ih'
   cases hc:H2 .f32 (GW 0 (s.2++[z])) lim
   ·have ht:Pw lim (GW 0 (s.2++[z]))=1065353216:=by unfold Pw;simp[hc]
    cases h1:flt .f32 1065353216 (BD .f32 s.1 rise)
    ·cases h2:Uj .f32 (BD .f32 s.1 rise) (BD .f32 s.1 rise)
     ·have e:=e2 _ _ ht rfl (BD .f32 s.1 rise) (by unfold OK;simp[h1,h2])
      rw[e] at ih' ⊢
      exact ih'
     ·have e:=e2 _ _ ht rfl 1065353216 (by unfold OK;simp[h1,h2])
      rw[e] at ih' ⊢
      exact ih'
    ·have e:=e2 _ _ ht rfl 1065353216 (by unfold OK;simp[h1])
     rw[e] at ih' ⊢
     exact ih'
   ·have ht:Pw lim (GW 0 (s.2++[z]))=fdiv .f32 lim (GW 0 (s.2++[z])):=by unfold Pw;simp[hc]
    cases h1:flt .f32 (fdiv .f32 lim (GW 0 (s.2++[z]))) (BD .f32 s.1 rise)
    ·cases h2:Uj .f32 (BD .f32 s.1 rise) (BD .f32 s.1 rise)
     ·have e:=e2 _ _ ht rfl (BD .f32 s.1 rise) (by unfold OK;simp[h1,h2])
      rw[e] at ih' ⊢
      exact ih'
     ·have e:=e2 _ _ ht rfl (fdiv .f32 lim (GW 0 (s.2++[z]))) (by unfold OK;simp[h1,h2])
      rw[e] at ih' ⊢
      exact ih'
    ·have e:=e2 _ _ ht rfl (fdiv .f32 lim (GW 0 (s.2++[z]))) (by unfold OK;simp[h1])
     rw[e] at ih' ⊢
     exact ih'
theorem LY (n:Nat) (lim:Nat):f130 (n+2) lim=some (CW lim&&H2 .f32 lim 0):=by
 rw[f130,XD]
 cases CW lim <;>rfl
theorem QU (n:Nat) (lim rise g:Nat) (w xs:List Nat) (hl:Bj lim) (hlim:(CW lim&&H2 .f32 lim 0)=true) (hg:Bj g) (hw:GF w) (hwl:w.length≤64) (hx:∀ x∈xs,Bj x) (hxl:xs.length≤256) (hn:300<n) :
  f138 (n+101) lim rise g w.length (AV .f32 w) xs.length (AV .f32 xs) =
   some ((Ai (Am lim rise) (g,w) xs).1.length,AV .f32 (Ai (Am lim rise) (g,w) xs).1,lim,rise,(Ai (Am lim rise) (g,w) xs).2.1,(Ai (Am lim rise) (g,w) xs).2.2.length,AV .f32 (Ai (Am lim rise) (g,w) xs).2.2,true):=by
 have e:=T1 n xs.length (AV .f32 xs) lim rise 0 0 0 0 [] hl xs [] [] (g,w) (n+100) hx ⟨hg,hw⟩ hwl (by simp;omega) (by simp;omega) (by omega)
 have e:f138.l0 (n+100) (n+100) xs.length (AV .f32 xs) lim rise g w.length (AV .f32 w) 0 0 0 0 [] 0 [] xs.length (AV .f32 xs) (xs.length:Int) 0=_:=e
 have hlen:=TT lim rise xs (g,w)
 rw[f138,LY,hlim,Ud,Hr (n+99) w (by omega),decide_eq_false (show ¬ (w.length:Int)>64 by omega),decide_eq_true (show (xs.length:Int)≤256 by omega)]
 simp only[AM,Jr,Ac,Al,e,Hr (n+99) (Ai (Am lim rise) (g,w) xs).2.2 (by simp at hlen;omega),nil_append]
theorem RH (n:Nat) (N:Nat) (cs:List T) (lim:Nat):∀ (zs p acc:List Nat) (m:Nat),(∀ x∈zs,Bj x)→acc.length+zs.length<1048576→p.length+zs.length<1048576→zs.length<m →
  f136.l0 (n+3) m N cs lim acc.length (AV .f32 acc) (p++zs).length (AV .f32 (p++zs)) ((p++zs).length:Int) (p.length:Int)=some ((acc++zs.map (HB lim)).length,AV .f32 (acc++zs.map (HB lim))):=by
 intro zs
 induction zs with
 | nil =>
   intro p acc m _ _ _ hm
   obtain ⟨m,rfl⟩:=zc m (by omega)
   rw[f136.l0,Gu];simp[Al]
 | cons z zs ih =>
   intro p acc m hz ha hp hm
   obtain ⟨m,rfl⟩:=zc m (by omega)
   have ha':acc.length<1048576:=by simp at ha;omega
   rw[f136.l0,Gt,FJ,Cz,Cv,Dl]
   simp only[Ac,BJ,zA,Xl n lim (hz z (by simp)),AM,BA (show acc.length<2147483648 by omega),Dh,Df (z:=z) (show p.length<4611686018427387904 by simp at hp;omega)]
   have:=ih (p++[z]) (acc++[HB lim z]) m (fun x hx=>hz x (by simp[hx])) (by simp at ha ⊢;omega) (by simp at hp ⊢;omega) (by simp at hm;omega)
   simpa using this
theorem ZH (n:Nat) (lim:Nat) (xs:List Nat) (hx:∀ x∈xs,Bj x) (hl:xs.length≤256) (hn:xs.length<n):f136 (n+4) xs.length (AV .f32 xs) lim=some (xs.length,AV .f32 (xs.map (HB lim)),true):=by
 have e:=RH n xs.length (AV .f32 xs) lim xs [] [] (n+3) hx (by simp;omega) (by simp;omega) (by omega)
 have e:f136.l0 (n+3) (n+3) xs.length (AV .f32 xs) lim 0 [] xs.length (AV .f32 xs) (xs.length:Int) 0=_:=e
 rw[f136,Ud,decide_eq_true (show (xs.length:Int)≤256 by omega)]
 simp only[AM,Jr,Ac,e,nil_append,length_map]
structure Bn where
 kind:Int
 len:Int
 nums:List Nat
def Dq (e:Bn):List T:=[.int .i64 e.kind,.int .i64 e.len,.lst e.nums.length (AV .f32 e.nums)]
def AI (es:List Bn):List T:=es.flatMap Dq
def A9 (es:List Bn) (i:Nat):Bn:=es.getD i ⟨5,0,[]⟩
theorem Gb {c:Nat} (hc:c<3):∀ (ts:List Bn) (i:Nat),i<ts.length→(AI ts)[i * 3+c]?=(Dq (A9 ts i))[c]?
 | [],i,h=>by simp at h
 | t::ts,0,_=>by
   show (Dq t++AI ts)[0 * 3+c]?=_
   rw[List.getElem?_append_left (by simp[Dq];omega),Nat.zero_mul,Nat.zero_add];rfl
 | t::ts,i+1,h=>by
   show (Dq t++AI ts)[(i+1) * 3+c]?=_
   rw[List.getElem?_append_right (by simp[Dq];omega),show (i+1) * 3+c - (Dq t).length=i * 3+c by simp[Dq];omega,Gb hc ts i (by simpa using h)]
   rfl
section
variable {ts:List Bn} {i:Nat} (h:i<ts.length)
include h
theorem Uw:AR [.int .i64,.int .i64,.lst] (AI ts) (i * 3+0)=true:=by
 have h0:=Gb (c:=0) (by decide) ts i h
 have h1:=Gb (c:=1) (by decide) ts i h
 have h2:=Gb (c:=2) (by decide) ts i h
 simp only[Dq,List.getElem?_cons_zero,List.getElem?_cons_succ] at h0 h1 h2
 rw[Nat.add_zero] at h0
 simp[AR,Nat.add_assoc,h0,h1,h2,Ml]
theorem kE:FA (AI ts) (i * 3+0)=(A9 ts i).kind:=by unfold FA;rw[Gb (c:=0) (by decide) ts i h];rfl
theorem gE:FA (AI ts) (i * 3+0+1)=(A9 ts i).len:=by unfold FA;rw[show i * 3+0+1=i * 3+1 from rfl,Gb (c:=1) (by decide) ts i h];rfl
theorem nE:HP (AI ts) (i * 3+0+1+1)=(A9 ts i).nums.length:=by unfold HP;rw[show i * 3+0+1+1=i * 3+2 from rfl,Gb (c:=2) (by decide) ts i h];rfl
theorem lE:H1 (AI ts) (i * 3+0+1+1)=AV .f32 (A9 ts i).nums:=by unfold H1;rw[show i * 3+0+1+1=i * 3+2 from rfl,Gb (c:=2) (by decide) ts i h];rfl
theorem E7:ts.drop i=A9 ts i::ts.drop (i+1):=by
 rw[drop_eq_getElem_cons h]
 simp[A9,List.getD,h]
theorem I9:A9 ts i∈ts:=by
 have:A9 ts i=ts[i]:=by simp[A9,List.getD,h]
 rw[this];exact List.getElem_mem h
end
theorem HE (acc:List Bn) (e:Bn):AI acc++AF (reps 1 [(T.int .i64 (0:Int)),(T.int .i64 (0:Int)),(T.lst 0 [])]) 0 (Dq e)=AI (acc++[e]):=by
 unfold AI
 rw[flatMap_append,flatMap_singleton];rfl
theorem Hm (n:Nat) {bs:List Int} (hb:Dd bs) {a:Int} (h0:0≤a) (h1:a≤1125899906842500) (sd:Int) :
  ∃ x a' sd',Bj x∧(a≤a'∧a'≤a+20)∧f124 (n+6) bs.length (its .u8 bs) a sd=some (x,bs.length,its .u8 bs,a',sd'):=by
 obtain ⟨b,a1,s1,ha1,e1⟩:=F8 (n+2) hb h0 (by omega) sd 10
 obtain ⟨x,a2,s2,hx,ha2,e2⟩:=Kf n hb (a:=a1) (by omega) (by omega) s1
 obtain ⟨r,a3,s3,-,ha3,e3⟩:=B8 (n+3) hb (a:=a1) (by omega) (by omega) s1 17
 rw[f124,e1]
 cases b
 ·simp only[AM,Al,e3]
  exact ⟨_,a3,s3,EO _ _,by omega,rfl⟩
 ·simp only[AM,Ac,e2]
  exact ⟨x,a2,s2,hx,by omega,rfl⟩
theorem Xs (n:Nat) {bs:List Int} (hb:Dd bs) {a:Int} (h0:0≤a) (h1:a≤1125899906842300) (sd:Int) :
  ∃ x y z a' sd',(Bj x∧Bj y∧Bj z)∧(a≤a'∧a'≤a+80)∧f158 (n+7) bs.length (its .u8 bs) a sd=some (x,y,z,bs.length,its .u8 bs,a',sd'):=by
 obtain ⟨x,a1,s1,hx,ha1,e1⟩:=Hm n hb h0 (by omega) sd
 obtain ⟨y,a2,s2,hy,ha2,e2⟩:=Hm n hb (a:=a1) (by omega) (by omega) s1
 obtain ⟨b,a3,s3,ha3,e3⟩:=F8 (n+3) hb (a:=a2) (by omega) (by omega) s2 2
 obtain ⟨z,a4,s4,hz,ha4,e4⟩:=Kf (n+1) hb (a:=a3) (by omega) (by omega) s3
 rw[f158,e1]
 cases b
 ·simp only[AM,e2,e3,Al]
  exact ⟨x,y,0,a3,s3,⟨hx,hy,Bw⟩,by omega,rfl⟩
 ·simp only[AM,e2,e3,Ac,e4]
  exact ⟨x,y,z,a4,s4,⟨hx,hy,hz⟩,by omega,rfl⟩
inductive Ef
 | scale (g:Nat)
 | filt (f1 f2 f3 f4 f5:Nat)
 | echo (L:Nat) (p q:Nat)
 | squeeze (p q r s:Nat)
 | clip (g:Nat)
 | bend
 | lim (A:Nat) (l:Nat) (r:Nat)
def bh (k:Nat):Nat:=fdiv .f32 (FloatKind.f32.nearest (1+(k:Int))) 1098907648
theorem Yc:∀ k:Nat,k<16→(CW (bh k)&&H2 .f32 (bh k) 0)=true:=by decide +kernel
def Ef.eff:Ef→Bn
 | .scale g=>⟨0,0,[g]⟩
 | .filt a b c d e=>⟨1,0,[a,b,c,d,e]⟩
 | .echo L p q=>⟨2,(L:Int),[p,q]⟩
 | .squeeze p q r s=>⟨3,0,[p,q,r,s]⟩
 | .clip g=>⟨4,0,[g]⟩
 | .bend=>⟨5,0,[]⟩
 | .lim A l r=>⟨6,(A:Int),[l,r]⟩
def Ef.Ok:Ef→Prop
 | .echo L _ _=>1≤L∧L≤32
 | .lim A l _=>A≤32∧Bj l∧(CW l&&H2 .f32 l 0)=true
 | .clip g=>Bj g
 | _=>True
theorem Xe (n:Nat) {bs:List Int} (hb:Dd bs) {a:Int} (h0:0≤a) (h1:a≤1125899906842000) (sd:Int) :
  ∃ p q x r s a' sd',(a≤a'∧a'≤a+200)∧f126 (n+8) bs.length (its .u8 bs) a sd=some (p,q,x,r,s,bs.length,its .u8 bs,a',sd'):=by
 obtain ⟨x,y,z,a1,s1,-,ha1,e1⟩:=Xs n hb h0 (by omega) sd
 obtain ⟨w,a2,s2,-,ha2,e2⟩:=Hm (n+1) hb (a:=a1) (by omega) (by omega) s1
 obtain ⟨r,a3,s3,-,ha3,e3⟩:=B8 (n+5) hb (a:=a2) (by omega) (by omega) s2 8
 obtain ⟨b,a4,s4,ha4,e4⟩:=F8 (n+4) hb (a:=a3) (by omega) (by omega) s3 10
 obtain ⟨v,a5,s5,-,ha5,e5⟩:=Kf (n+2) hb (a:=a4) (by omega) (by omega) s4
 rw[f126,e1]
 cases b
 ·simp only[AM,e2,e3,e4,Al]
  exact ⟨x,y,z,w,_,a4,s4,by omega,rfl⟩
 ·simp only[AM,e2,e3,e4,Ac,e5]
  exact ⟨x,y,z,w,v,a5,s5,by omega,rfl⟩
theorem Wh (n:Nat) {bs:List Int} (hb:Dd bs) {a:Int} (h0:0≤a) (h1:a≤1125899906840000) (sd:Int) :
  ∃ (e:Ef) (a' sd':Int),e.Ok∧(a≤a'∧a'≤a+400)∧f96 (n+9) bs.length (its .u8 bs) a sd=some (e.eff.kind,e.eff.len,e.eff.nums.length,AV .f32 e.eff.nums,bs.length,its .u8 bs,a',sd'):=by
 obtain ⟨k,a1,s1,hk,ha1,e1⟩:=B8 (n+6) hb h0 (by omega) sd 7
 have hk7:=hk.2.1 (by omega)
 have hk0:=hk.1
 obtain ⟨x,a2,s2,hx,ha2,e2⟩:=Hm (n+2) hb (a:=a1) (by omega) (by omega) s1
 obtain ⟨f,a3,s3,-,ha3,e3⟩:=YG (n+1) hb (a:=a1) (by omega) (by omega) s1
 obtain ⟨p,q,y,r,s,a4,s4,ha4,e4⟩:=Xe n hb (a:=a1) (by omega) (by omega) s1
 obtain ⟨L,b1,t1,hL,hb1,g1⟩:=B8 (n+6) hb (a:=a1) (by omega) (by omega) s1 5
 obtain ⟨L,rfl⟩:=Int.eq_ofNat_of_zero_le hL.1
 have hL5:=hL.2.1 (by omega)
 obtain ⟨u,b2,t2,-,hb2,g2⟩:=Hm (n+2) hb (a:=b1) (by omega) (by omega) t1
 obtain ⟨v,b3,t3,-,hb3,g3⟩:=Hm (n+2) hb (a:=b2) (by omega) (by omega) t2
 obtain ⟨m,c2,v2,hm,hc2,d2⟩:=B8 (n+6) hb (a:=b1) (by omega) (by omega) t1 16
 obtain ⟨m,rfl⟩:=Int.eq_ofNat_of_zero_le hm.1
 have hm16:=hm.2.1 (by omega)
 obtain ⟨w,c3,v3,-,hc3,d3⟩:=Hm (n+2) hb (a:=c2) (by omega) (by omega) v2
 have w1:IntKind.i64.wrap ((1:Int)+(L:Int))=((L+1:Nat):Int):=by rw[A6] <;>omega
 have w2:IntKind.i64.wrap ((1:Int)+(m:Int))=1+(m:Int):=by rw[A6] <;>omega
 rw[f96,e1]
 rcases (show k=0∨k=1∨k=2∨k=3∨k=4∨k=5∨k=6 by omega) with rfl | rfl | rfl | rfl | rfl | rfl | rfl
 ·simp only[AM,beq_self_eq_true,Ac,e2]
  exact ⟨.scale x,a2,s2,trivial,by omega,rfl⟩
 ·simp only[AM,show ((1:Int)==0)=false from rfl,show ((1:Int)==4)=false from rfl,show ((1:Int)==1)=true from rfl,Ac,Al,e3]
  exact ⟨.filt _ _ _ _ _,a3,s3,trivial,by omega,rfl⟩
 ·simp only[AM,show ((2:Int)==0)=false from rfl,show ((2:Int)==4)=false from rfl,show ((2:Int)==1)=false from rfl,show ((2:Int)==2)=true from rfl,Ac,Al,g1,w1,g2,g3]
  exact ⟨.echo (L+1) u v,b3,t3,⟨by omega,by omega⟩,by omega,rfl⟩
 ·simp only[AM,show ((3:Int)==0)=false from rfl,show ((3:Int)==4)=false from rfl,show ((3:Int)==1)=false from rfl,show ((3:Int)==2)=false from rfl,show ((3:Int)==3)=true from rfl,Ac,Al,e4]
  exact ⟨.squeeze p q r s,a4,s4,trivial,by omega,rfl⟩
 ·simp only[AM,show ((4:Int)==0)=false from rfl,show ((4:Int)==4)=true from rfl,Ac,Al,e2]
  exact ⟨.clip x,a2,s2,hx,by omega,rfl⟩
 ·simp only[AM,show ((5:Int)==0)=false from rfl,show ((5:Int)==4)=false from rfl,show ((5:Int)==1)=false from rfl,show ((5:Int)==2)=false from rfl,show ((5:Int)==3)=false from rfl,show ((5:Int)==6)=false from rfl,Al]
  exact ⟨.bend,a1,s1,trivial,by omega,rfl⟩
 ·simp only[AM,show ((6:Int)==0)=false from rfl,show ((6:Int)==4)=false from rfl,show ((6:Int)==1)=false from rfl,show ((6:Int)==2)=false from rfl,show ((6:Int)==3)=false from rfl,show ((6:Int)==6)=true from rfl,Ac,Al,g1,d2,w2,d3]
  exact ⟨.lim L (bh m) w,c3,v3,⟨by omega,EO _ _,Yc m (by omega)⟩,by omega,rfl⟩
def C8 (es:List Ef):List Bn:=es.map (·.eff)
def row (ls:List (List Nat)) (i:Nat):List Nat:=ls.getD i []
section
variable {ls:List (List Nat)} {i:Nat} (h:i<ls.length)
include h
theorem Qu:(ls.map SM)[i]?=some (SM (row ls i)):=by simp[row,List.getD,h]
theorem jH:AR [.lst] (ls.map SM) i=true:=by simp[AR,Qu h,Ml,SM]
theorem nR:HP (ls.map SM) i=(row ls i).length:=by unfold HP;rw[Qu h];rfl
theorem lR:H1 (ls.map SM) i=AV .f32 (row ls i):=by unfold H1;rw[Qu h];rfl
theorem Wl:ls.drop i=row ls i::ls.drop (i+1):=by
 rw[drop_eq_getElem_cons h]
 simp[row,List.getD,h]
end
theorem Uz (P:List (List Nat)) (r:List Nat):P.map SM++AF (reps 1 [(T.lst 0 [])]) 0 [T.lst r.length (AV .f32 r)]=(P++[r]).map SM:=by
 rw[map_append];rfl
theorem ZP {ls:List (List Nat)} {i j:Nat} {r:List Nat} (hj:j<ls.length):row (ls.set i r) j=if i=j then r else row ls j:=by
 unfold row
 by_cases h:i=j
 ·subst h;simp[List.getD,hj]
 ·simp[List.getD,h,List.getElem?_set_ne]
def Ef.keep:Ef→Nat
 | .scale _=>0
 | .filt .. =>2
 | .echo L _ _=>L
 | .squeeze .. =>1
 | .clip _=>0
 | .bend=>0
 | .lim A _ _=>A+1
def Fg (es:List Ef) (i:Nat):Ef:=es.getD i .bend
theorem Ur {es:List Ef} {i:Nat} (h:i<es.length):A9 (C8 es) i=(Fg es i).eff:=by simp[A9,C8,Fg,List.getD,h]
theorem Um {es:List Ef} {i:Nat} (h:i<es.length):es.drop i=Fg es i::es.drop (i+1):=by
 rw[drop_eq_getElem_cons h]
 simp[Fg,List.getD,h]
theorem SK {es:List Ef} {i:Nat} (h:i<es.length):Fg es i∈es:=by
 have:Fg es i=es[i]:=by simp[Fg,List.getD,h]
 rw[this];exact List.getElem_mem h
theorem DI (es:List Ef):(C8 es).length=es.length:=by simp[C8]
theorem XX {k:FloatKind} {L:List Nat} {i v:Nat}:AF (AV k L) i [T.flt k v]=AV k (L.set i v):=by
 rw[Ss];simp[AV,List.map_set]
def newRow:Ef→List Nat
 | .lim A k r=>(List.replicate (Ef.lim A k r).keep 0).set 0 1065353216
 | e=>List.replicate e.keep 0
theorem PK (e:Ef):((e.eff.kind==6)=false∧newRow e=List.replicate e.keep 0)∨((e.eff.kind==6)=true∧newRow e=(List.replicate e.keep 0).set 0 1065353216∧1≤e.keep):=by
 cases e with
 | lim A k r=>exact .inr ⟨rfl,rfl,by show 1≤A+1;omega⟩
 | scale g=>exact .inl ⟨rfl,rfl⟩
 | filt _ _ _ _ _=>exact .inl ⟨rfl,rfl⟩
 | echo L p q=>exact .inl ⟨rfl,rfl⟩
 | squeeze _ _ _ _=>exact .inl ⟨rfl,rfl⟩
 | clip g=>exact .inl ⟨rfl,rfl⟩
 | bend=>exact .inl ⟨rfl,rfl⟩
theorem JI (e:Ef):(newRow e).length=e.keep:=by
 rcases PK e with ⟨-,h⟩ | ⟨-,h,-⟩ <;>rw[h] <;>simp
def aA (es:List Ef) (ls:List (List Nat)):Prop:=ls.length=es.length∧∀ i,i<ls.length→(row ls i).length=(Fg es i).keep∧(∀ y∈row ls i,Bj y)
theorem aA.set {es:List Ef} {ls:List (List Nat)} (h:aA es ls) {i:Nat} {r:List Nat} (hi:i<ls.length) (hr:r.length=(Fg es i).keep) (hw:∀ y∈r,Bj y):aA es (ls.set i r):=by
 refine ⟨by rw[length_set];exact h.1,fun j hj => ?_⟩
 rw[length_set] at hj
 rw[ZP hj]
 by_cases e:i=j
 ·subst e;rw[if_pos rfl];exact ⟨hr,hw⟩
 ·rw[if_neg e];exact h.2 j hj
theorem XR (es:List Ef):aA es (es.map newRow):=by
 refine ⟨by simp,fun i hi => ?_⟩
 have h:i<es.length:=by simpa using hi
 have e:row (es.map newRow) i=newRow (Fg es i):=by simp[row,Fg,List.getD,h]
 rw[e]
 refine ⟨JI _,fun y hy => ?_⟩
 rcases PK (Fg es i) with ⟨-,hr⟩ | ⟨-,hr,-⟩
 ·rw[hr] at hy
  obtain ⟨-,rfl⟩:=List.mem_replicate.1 hy
  exact Bw
 ·rw[hr] at hy
  rcases mem_or_eq_of_mem_set hy with h' | rfl
  ·obtain ⟨-,rfl⟩:=List.mem_replicate.1 h'
   exact Bw
  ·exact UO
theorem Mk (n:Nat) (a b:Int) (c:Nat) (l:List T) (lo hi k:Int) (h:lo≤b∧b≤hi) (hk:(c:Int)=k):f129 (n+2) a b c l lo hi k=some true:=by
 rw[f129,QJ,decide_eq_true h]
 simp only[AM,Ac,hk,beq_self_eq_true]
theorem Y8 (n:Nat) {l:Nat} (h:(CW l&&H2 .f32 l 0)=true):f130 (n+2) l=some true:=by rw[LY,h]
theorem O0 (n:Nat) {e:Ef} (h:e.Ok):f99 (n+4) e.eff.kind e.eff.len e.eff.nums.length (AV .f32 e.eff.nums)=some true:=by
 rw[f99]
 cases e with
 | scale g =>
   have:=Mk (n+1) 0 0 1 (AV .f32 [g]) 0 0 1 (by omega) (by omega)
   simp only[Ef.eff,beq_self_eq_true,Ac,length_cons,length_nil,Nat.zero_add,this,AM]
 | filt a b c d f =>
   have:=Mk (n+1) 1 0 5 (AV .f32 [a,b,c,d,f]) 0 0 5 (by omega) (by omega)
   simp only[Ef.eff,show ((1:Int)==0)=false from rfl,show ((1:Int)==4)=false from rfl,beq_self_eq_true,Ac,Al,length_cons,length_nil,Nat.zero_add,Nat.reduceAdd,this,AM]
 | echo L p q =>
   have hL:1≤L∧L≤32:=h
   have:=Mk (n+1) 2 (L:Int) 2 (AV .f32 [p,q]) 1 32 2 (by omega) (by omega)
   simp only[Ef.eff,show ((2:Int)==0)=false from rfl,show ((2:Int)==4)=false from rfl,show ((2:Int)==1)=false from rfl,beq_self_eq_true,Ac,Al,length_cons,length_nil,Nat.zero_add,Nat.reduceAdd,this,AM]
 | squeeze a b c d =>
   have:=Mk (n+1) 3 0 4 (AV .f32 [a,b,c,d]) 0 0 4 (by omega) (by omega)
   simp only[Ef.eff,show ((3:Int)==0)=false from rfl,show ((3:Int)==4)=false from rfl,show ((3:Int)==1)=false from rfl,show ((3:Int)==2)=false from rfl,beq_self_eq_true,Ac,Al,length_cons,length_nil,Nat.zero_add,Nat.reduceAdd,this,AM]
 | clip g =>
   have:=Mk (n+1) 4 0 1 (AV .f32 [g]) 0 0 1 (by omega) (by omega)
   simp only[Ef.eff,show ((4:Int)==0)=false from rfl,beq_self_eq_true,Ac,Al,length_cons,length_nil,Nat.zero_add,this,AM]
 | bend =>
   have:=Mk (n+1) 5 0 0 (AV .f32 []) 0 0 0 (by omega) (by omega)
   simp only[Ef.eff,show ((5:Int)==0)=false from rfl,show ((5:Int)==4)=false from rfl,show ((5:Int)==1)=false from rfl,show ((5:Int)==2)=false from rfl,show ((5:Int)==3)=false from rfl,beq_self_eq_true,Ac,Al,length_nil,this,AM]
 | lim A k r =>
   have hA:A≤32∧Bj k∧_:=h
   have:=Mk (n+1) 6 (A:Int) 2 (AV .f32 [k,r]) 0 32 2 (by omega) (by omega)
   have g1:decide ((0:Int)≤0∧(0:Int)<((2:Nat):Int))=true:=rfl
   have g2:AR [.flt .f32] (AV .f32 [k,r]) 0=true:=rfl
   have g3:CY (AV .f32 [k,r]) 0=k:=rfl
   simp only[Ef.eff,show ((6:Int)==0)=false from rfl,show ((6:Int)==4)=false from rfl,show ((6:Int)==1)=false from rfl,show ((6:Int)==2)=false from rfl,show ((6:Int)==3)=false from rfl,show ((6:Int)==5)=false from rfl,beq_self_eq_true,Ac,Al,length_cons,length_nil,Nat.zero_add,Nat.reduceAdd,this,AM,g1,g2,g3,zA,BJ,Y8 (n+1) hA.2.2]
def JM (x:Nat):Nat:=if LH .f32 x 1065353216=true then 1065353216 else if UM .f32 x 3212836864=true then 3212836864 else AT .f32 x (BW .f32 1069547520 (AT .f32 1056964608 (AT .f32 x x)))
theorem au (n x:Nat):f137 (n+1) x=some (JM x):=by
 rw[f137]
 unfold JM
 cases LH .f32 x 1065353216
 ·cases UM .f32 x 3212836864 <;>rfl
 ·rfl
theorem P3 (n:Nat) (N:Nat) (cs:List T):∀ (zs p acc:List Nat) (m:Nat),acc.length+zs.length<1048576→p.length+zs.length<1048576→zs.length<m →
  f100.l1 (n+1) m N cs acc.length (AV .f32 acc) (p++zs).length (AV .f32 (p++zs)) ((p++zs).length:Int) (p.length:Int)=some ((acc++zs.map JM).length,AV .f32 (acc++zs.map JM)):=by
 intro zs
 induction zs with
 | nil =>
   intro p acc m _ _ hm
   obtain ⟨m,rfl⟩:=zc m (by simp at hm;omega)
   rw[f100.l1,Gu];simp[br]
 | cons z zs ih =>
   intro p acc m ha hp hm
   obtain ⟨m,rfl⟩:=zc m (by simp at hm;omega)
   have:=ih (p++[z]) (acc++[JM z]) m (by simp at ha ⊢;omega) (by simp at hp ⊢;omega) (by simp at hm;omega)
   rw[f100.l1,Gt,FJ,Cz,Cv,Dl,Df (z:=z) (show p.length<4611686018427387904 by simp at hp;omega)]
   simp only[Ac,BJ,zA,au,AM,BA (show acc.length<2147483648 by simp at ha;omega),Dh]
   simpa using this
def EA (p q:Nat) (w:List Nat) (x:Nat):Nat × List Nat:=(BD .f32 x (AT .f32 q (XL w)),NT w (IV (BD .f32 x (AT .f32 p (XL w)))))
theorem Rd (n:Nat) (N:Nat) (cs:List T) (pp qq:Nat):∀ (zs p acc w:List Nat) (m:Nat),0<w.length→w.length≤64→acc.length+zs.length<1048576→p.length+zs.length<1048576→zs.length<m →
  f100.l0 (n+3) m N cs 2 (AV .f32 [pp,qq]) w.length (AV .f32 w) acc.length (AV .f32 acc) (p++zs).length (AV .f32 (p++zs)) ((p++zs).length:Int) (p.length:Int) =
   some ((Ai (EA pp qq) w zs).2.length,AV .f32 (Ai (EA pp qq) w zs).2,(acc++(Ai (EA pp qq) w zs).1).length,AV .f32 (acc++(Ai (EA pp qq) w zs).1)):=by
 intro zs
 induction zs with
 | nil =>
   intro p acc w m _ _ _ _ hm
   obtain ⟨m,rfl⟩:=zc m (by simp at hm;omega)
   rw[f100.l0,Gu];simp[br,Ai]
 | cons z zs ih =>
   intro p acc w m h0 h1 ha hp hm
   obtain ⟨m,rfl⟩:=zc m (by simp at hm;omega)
   have hlen:(EA pp qq w z).2.length=w.length:=Lu h0
   have step:=ih (p++[z]) (acc++[(EA pp qq w z).1]) (EA pp qq w z).2 m (by omega) (by omega) (by simp at ha ⊢;omega) (by simp at hp ⊢;omega) (by simp at hm;omega)
   have g1:decide ((0:Int)≤0∧(0:Int)<(w.length:Int))=true:=decide_eq_true (by omega)
   have g2:AR [.flt .f32] (AV .f32 w) 0=true:=B9 h0
   have g3:CY (AV .f32 w) 0=XL w:=Em ..
   have g4:decide ((0:Int)≤1∧(1:Int)<((2:Nat):Int))=true:=rfl
   have g5:decide ((0:Int)≤0∧(0:Int)<((2:Nat):Int))=true:=rfl
   have g6:AR [.flt .f32] (AV .f32 [pp,qq]) 0=true:=rfl
   have g7:AR [.flt .f32] (AV .f32 [pp,qq]) 1=true:=rfl
   have g8:CY (AV .f32 [pp,qq]) 0=pp:=rfl
   have g9:CY (AV .f32 [pp,qq]) 1=qq:=rfl
   have tk:∀ y,f133 (n+3) w.length (AV .f32 w) y=some ((NT w y).length,AV .f32 (NT w y)):=fun y=>by
    obtain ⟨v,vs,rfl⟩:∃ v vs,w=v::vs:=by cases w with
     | nil=>simp at h0
     | cons v vs=>exact ⟨v,vs,rfl⟩
    exact Yk (n+1) v vs y (by simp at h1;omega)
   rw[f100.l0,Gt,FJ,Cz,Cv,Dl]
   have w' :=Df (z:=z) (p:=p) (show p.length<4611686018427387904 by simp at hp;omega)
   simp only[Ac,BJ,zA,g1,g2,g3,g4,g5,g6,g7,g8,g9,BA (show acc.length<2147483648 by simp at ha;omega),Dh,QO (n+1) (CO _ _),AM,tk,w']
   rw[Bb (z:=(EA pp qq w z).1)]
   rw[append_assoc,append_assoc] at step
   exact step
section
variable {σ τ α β:Type}
theorem Ku (f:σ→α→β × σ) (g:τ→α→β × τ) (h:τ→σ) (P:τ→Prop) (hs:∀ t x,P t→f (h t) x=((g t x).1,h (g t x).2)∧P (g t x).2):∀ (xs:List α) (t:τ),P t→Ai f (h t) xs=((Ai g t xs).1,h (Ai g t xs).2)∧P (Ai g t xs).2
 | [],t,ht=>⟨rfl,ht⟩
 | x::xs,t,ht=>by
   obtain ⟨e,hp⟩:=hs t x ht
   obtain ⟨e2,hp2⟩:=Ku f g h P hs xs _ hp
   refine ⟨?_,hp2⟩
   simp only[Ai,e,e2]
theorem I6 (f:α→β):∀ (xs:List α),Ai (fun (_:List τ) x=>(f x,([]:List τ))) [] xs=(xs.map f,[])
 | []=>rfl
 | x::xs=>by simp only[Ai,I6 f xs,map_cons]
theorem PQ (f:σ→α × α→β × σ):∀ (xs:List α) (s:σ),Ai f s (xs.zip xs)=Ai (fun s x=>f s (x,x)) s xs
 | [],s=>rfl
 | x::xs,s=>by simp only[List.zip_cons_cons,Ai,PQ f xs]
end
def Ef.step:Ef→List Nat→Nat→Nat × List Nat
 | .scale g,_,x=>(AT .f32 x g,[])
 | .filt a b c d e,w,x=>((CL (a,b,c,d,e) 1 true (w.getD 0 0,w.getD 1 0,0,0) x).1,[(CL (a,b,c,d,e) 1 true (w.getD 0 0,w.getD 1 0,0,0) x).2.1,(CL (a,b,c,d,e) 1 true (w.getD 0 0,w.getD 1 0,0,0) x).2.2.1])
 | .echo L p q,w,x=>EA p q w x
 | .squeeze a r t q,w,x=>((CE a r t q (w.getD 0 0) (x,x)).1,[(CE a r t q (w.getD 0 0) (x,x)).2])
 | .clip g,_,x=>(HB g x,[])
 | .bend,_,x=>(JM x,[])
 | .lim A k r,w,x=>((Am k r (w.getD 0 0,w.drop 1) x).1,(Am k r (w.getD 0 0,w.drop 1) x).2.1::(Am k r (w.getD 0 0,w.drop 1) x).2.2)
def Zm (e:Ef) (w:List Nat):Prop:=w.length=e.keep∧GF w
theorem YP {x:Nat}:Bj (JM x):=by
 unfold JM
 split
 ·exact ⟨by decide,by decide⟩
 ·split
  ·exact ⟨by decide,by decide⟩
  ·exact Gy _ _
theorem M3 {w:List Nat} (h:GF w) (i:Nat):Bj (w.getD i 0):=by
 unfold List.getD
 cases hi:w[i]? with
 | none=>exact Bw
 | some v=>exact h v (List.mem_of_getElem? hi)
theorem Xv {e:Ef} (he:e.Ok) {w:List Nat} (h:Zm e w) {x:Nat} (hx:Bj x):Bj (e.step w x).1∧Zm e (e.step w x).2:=by
 obtain ⟨hl,hw⟩:=h
 cases e with
 | scale g=>exact ⟨Gy _ _,rfl,fun y hy=>by cases hy⟩
 | filt a b c d e =>
   obtain ⟨q1,q2,q3,q4,q5⟩:=PS (f:=(a,b,c,d,e)) (form:=1) (b:=true) (m:=(w.getD 0 0,w.getD 1 0,0,0)) (x:=x) ⟨M3 hw 0,M3 hw 1,Bw,Bw⟩ hx
   refine ⟨q1,rfl,fun y hy => ?_⟩
   simp only[Ef.step,mem_cons,not_mem_nil,or_false] at hy
   rcases hy with rfl | rfl
   ·exact q2
   ·exact q3
 | echo L p q =>
   have h1:1≤L∧L≤32:=he
   have hl:w.length=L:=hl
   exact ⟨CO _ _,(Lu (by omega)).trans hl,Vh hw (LM (CO _ _))⟩
 | squeeze a r t q =>
   refine ⟨Gy _ _,rfl,fun y hy => ?_⟩
   simp only[Ef.step,mem_cons,not_mem_nil,or_false] at hy
   subst hy;exact VQ ..
 | clip g=>exact ⟨S2 he hx,rfl,fun y hy=>by cases hy⟩
 | bend=>exact ⟨YP,rfl,fun y hy=>by cases hy⟩
 | lim A k r =>
   have hl:w.length=A+1:=hl
   refine ⟨S2 he.2.1 (Gy _ _),?_,fun y hy => ?_⟩
   ·show (Am k r (w.getD 0 0,w.drop 1) x).2.2.length+1=A+1
    simp[Am];omega
   ·simp only[Ef.step,mem_cons] at hy
    rcases hy with rfl | hy
    ·exact Sh Sc (CO _ _)
    ·have:=mem_of_mem_drop hy
     simp only[mem_append,mem_singleton] at this
     rcases this with h | rfl
     ·exact hw y (mem_of_mem_drop h)
     ·exact hx
theorem RA {e:Ef} (he:e.Ok) (xs:List Nat) {w:List Nat} (h:Zm e w) (hx:GF xs):GF (Ai e.step w xs).1∧Zm e (Ai e.step w xs).2 :=
 Ri (f:=e.step) (P:=Zm e) (Q:=Bj) (S:=Bj) (fun _ _ hs hq=>Xv he hs hq) xs w h hx
theorem Xc (a b c d e:Nat) (xs w:List Nat) (hl:w.length=2):∃ u v,(Ai (Ef.filt a b c d e).step w xs).2=[u,v]∧Ai (CL (a,b,c,d,e) 1 true) (w.getD 0 0,w.getD 1 0,0,0) xs=((Ai (Ef.filt a b c d e).step w xs).1,(u,v,0,0)):=by
 obtain ⟨h1,h2⟩:=Ku (CL (a,b,c,d,e) 1 true) (Ef.filt a b c d e).step (fun w=>(w.getD 0 0,w.getD 1 0,0,0)) (fun w=>w.length=2) (fun t x ht=>⟨by
  have z:fl? true 0=0:=by decide
  simp only[CL,Ef.step,List.getD_cons_zero,List.getD_cons_succ,z,if_neg (show ¬ (1:Int)=0 by decide),if_pos],rfl⟩) xs w hl
 generalize (Ai (Ef.filt a b c d e).step w xs)=r at h1 h2
 obtain ⟨ys,r⟩:=r
 match r,h2 with
 | [u,v],_=>exact ⟨u,v,rfl,h1⟩
theorem Sd (a r t q:Nat) (xs w:List Nat) (hl:w.length=1):∃ u,(Ai (Ef.squeeze a r t q).step w xs).2=[u]∧Ai (CE a r t q) (w.getD 0 0) (xs.zip xs)=((Ai (Ef.squeeze a r t q).step w xs).1,u):=by
 rw[PQ]
 obtain ⟨h1,h2⟩:=Ku (fun s x=>CE a r t q s (x,x)) (Ef.squeeze a r t q).step (fun w=>w.getD 0 0) (fun w=>w.length=1) (fun t x ht=>⟨rfl,rfl⟩) xs w hl
 generalize (Ai (Ef.squeeze a r t q).step w xs)=s at h1 h2
 obtain ⟨ys,s⟩:=s
 match s,h2 with
 | [u],_=>exact ⟨u,rfl,h1⟩
theorem Yy (A k r:Nat) (xs w:List Nat) (hl:w.length=A+1):∃ g v,(Ai (Ef.lim A k r).step w xs).2=g::v∧Ai (Am k r) (w.getD 0 0,w.drop 1) xs=((Ai (Ef.lim A k r).step w xs).1,(g,v)):=by
 obtain ⟨h1,h2⟩:=Ku (Am k r) (Ef.lim A k r).step (fun w=>(w.getD 0 0,w.drop 1)) (fun w=>0<w.length) (fun t x ht=>⟨rfl,by simp[Ef.step]⟩) xs w (by omega)
 generalize (Ai (Ef.lim A k r).step w xs)=s at h1 h2
 obtain ⟨ys,s⟩:=s
 match s,h2 with
 | g::v,_=>exact ⟨g,v,rfl,h1⟩
def By:List Ef→List (List Nat)→List Nat→List Nat × List (List Nat)
 | e::es,w::ls,xs=>((By es ls (Ai e.step w xs).1).1,(Ai e.step w xs).2::(By es ls (Ai e.step w xs).1).2)
 | _,_,xs=>(xs,[])
def Oi:List Ef→List (List Nat)→Prop
 | e::es,w::ls=>Zm e w∧Oi es ls
 | [],[]=>True
 | _,_=>False
theorem Oi.len:∀ {es:List Ef} {ls:List (List Nat)},Oi es ls→ls.length=es.length
 | [],[],_=>rfl
 | _::_,_::_,h=>by simp[h.2.len]
 | [],_::_,h=>h.elim
 | _::_,[],h=>h.elim
theorem Oi.at:∀ {es:List Ef} {ls:List (List Nat)},Oi es ls→∀ i,i<es.length→Zm (Fg es i) (row ls i)
 | [],[],_,i,hi=>by simp at hi
 | _::_,_::_,h,0,_=>h.1
 | _::_,_::_,h,i+1,hi=>h.2.at i (by simpa using hi)
 | [],_::_,h,_,_=>h.elim
 | _::_,[],h,_,_=>h.elim
theorem aA.fits:∀ {es:List Ef} {ls:List (List Nat)},aA es ls→Oi es ls
 | [],[],_=>trivial
 | e::es,w::ls,h=>⟨h.2 0 (by simp),aA.fits ⟨by have:=h.1;simpa using this,fun i hi=>h.2 (i+1) (by simpa using hi)⟩⟩
 | [],_::_,h=>by have:=h.1;simp at this
 | _::_,[],h=>by have:=h.1;simp at this
theorem Po:∀ (es:List Ef) (ls:List (List Nat)) (xs:List Nat),(∀ e∈es,e.Ok)→Oi es ls→GF xs→GF (By es ls xs).1∧Oi es (By es ls xs).2∧(By es ls xs).1.length=xs.length
 | [],[],xs,_,_,hx=>⟨hx,trivial,rfl⟩
 | e::es,w::ls,xs,ho,h,hx=>by
   obtain ⟨a,b⟩:=RA (ho e (by simp)) xs h.1 hx
   obtain ⟨c,d,f⟩:=Po es ls _ (fun e he=>ho e (by simp[he])) h.2 a
   exact ⟨c,⟨b,d⟩,f.trans (IW _ _ _)⟩
 | [],_::_,_,_,h,_=>h.elim
 | _::_,[],_,_,h,_=>h.elim
theorem XN {w:List Nat}:((AV .f32 w).drop 1).take (w.length - 1)=AV .f32 (w.drop 1):=by
 rw[Kh,Gv,take_of_length_le (by simp)]
theorem Rh (n:Nat) {e:Ef} (he:e.Ok) {w xs:List Nat} (hf:Zm e w) (hx:GF xs) (hl:xs.length≤256) (hn:600<n) :
  f100 (n+102) e.eff.kind e.eff.len e.eff.nums.length (AV .f32 e.eff.nums) w.length (AV .f32 w) xs.length (AV .f32 xs) =
   some ((Ai e.step w xs).1.length,AV .f32 (Ai e.step w xs).1,(Ai e.step w xs).2.length,AV .f32 (Ai e.step w xs).2):=by
 obtain ⟨hwl,hww⟩:=hf
 rw[f100]
 cases e with
 | scale g =>
   obtain rfl:w=[]:=length_eq_zero_iff.1 hwl
   have e1:=VT (n+100) xs g (by omega) (by omega)
   have e1:f131 (n+101) xs.length (AV .f32 xs) g=_:=e1
   have g1:decide ((0:Int)≤0∧(0:Int)<(([g].length:Nat):Int))=true:=rfl
   have g2:AR [.flt .f32] (AV .f32 [g]) 0=true:=rfl
   have g3:CY (AV .f32 [g]) 0=g:=rfl
   have hs:Ai (Ef.scale g).step [] xs=(xs.map fun z=>AT .f32 z g,[]):=I6 (fun z=>AT .f32 z g) xs
   simp only[Ef.eff,beq_self_eq_true,Ac,g1,g2,g3,zA,BJ,e1,AM,hs]
   rfl
 | filt a b c d f =>
   have hw2:w.length=2:=hwl
   obtain ⟨u,v,hs2,hs⟩:=Xc a b c d f xs w hw2
   have e1:=bO (n+96) (a,b,c,d,f) 1 true (w.getD 0 0,w.getD 1 0,0,0) xs hx ⟨M3 hww 0,M3 hww 1,Bw,Bw⟩ (by omega) (by omega)
   rw[hs] at e1
   have e1:f132 (n+101) a b c d f 1 true (w.getD 0 0) (w.getD 1 0) 0 0 xs.length (AV .f32 xs)=_:=e1
   have g (i:Nat) (hi:i<5):AR [.flt .f32] (AV .f32 [a,b,c,d,f]) i=true:=B9 (by simpa using hi)
   have k0:CY (AV .f32 [a,b,c,d,f]) 0=a:=rfl
   have k1:CY (AV .f32 [a,b,c,d,f]) 1=b:=rfl
   have k2:CY (AV .f32 [a,b,c,d,f]) 2=c:=rfl
   have k3:CY (AV .f32 [a,b,c,d,f]) 3=d:=rfl
   have k4:CY (AV .f32 [a,b,c,d,f]) 4=f:=rfl
   have d0:decide ((0:Int)≤0∧(0:Int)<(([a,b,c,d,f].length:Nat):Int))=true:=rfl
   have d1:decide ((0:Int)≤1∧(1:Int)<(([a,b,c,d,f].length:Nat):Int))=true:=rfl
   have d2:decide ((0:Int)≤2∧(2:Int)<(([a,b,c,d,f].length:Nat):Int))=true:=rfl
   have d3:decide ((0:Int)≤3∧(3:Int)<(([a,b,c,d,f].length:Nat):Int))=true:=rfl
   have d4:decide ((0:Int)≤4∧(4:Int)<(([a,b,c,d,f].length:Nat):Int))=true:=rfl
   have w0:AR [.flt .f32] (AV .f32 w) 0=true:=B9 (by omega)
   have w1:AR [.flt .f32] (AV .f32 w) 1=true:=B9 (by omega)
   have q0:decide ((0:Int)≤0∧(0:Int)<(w.length:Int))=true:=decide_eq_true (by omega)
   have q1:decide ((0:Int)≤1∧(1:Int)<(w.length:Int))=true:=decide_eq_true (by omega)
   simp only[Ef.eff,show ((1:Int)==0)=false from rfl,beq_self_eq_true,Ac,Al,g 0 (by decide),g 1 (by decide),g 2 (by decide),g 3 (by decide),g 4 (by decide),k0,k1,k2,k3,k4,d0,d1,d2,d3,d4,w0,w1,q0,q1,Em,zA,BJ,e1,AM,hs2]
   rfl
 | echo L p q =>
   have hL:1≤L∧L≤32:=he
   have hwL:w.length=L:=hwl
   have e0:=Hr (n+100) w (by omega)
   have e0:f34 (n+101) w.length (AV .f32 w)=_:=e0
   have e1:=Rd (n+98) xs.length (AV .f32 xs) p q xs [] [] w (n+101) (by omega) (by omega) (by simp;omega) (by simp;omega) (by omega)
   have e1:f100.l0 (n+101) (n+101) xs.length (AV .f32 xs) [p,q].length (AV .f32 [p,q]) w.length (AV .f32 w) 0 [] xs.length (AV .f32 xs) (xs.length:Int) 0=_:=e1
   simp only[Ef.eff,show ((2:Int)==0)=false from rfl,show ((2:Int)==1)=false from rfl,beq_self_eq_true,Ac,Al,e0,AM,e1]
   rfl
 | squeeze a r t q =>
   have hw1:w.length=1:=hwl
   obtain ⟨u,hs2,hs⟩:=Sd a r t q xs w hw1
   have e1:=Qc (n+96) a r (w.getD 0 0) t q xs hx hl (by omega)
   rw[hs] at e1
   have e1:f135 (n+101) a r (w.getD 0 0) t q xs.length (AV .f32 xs)=_:=e1
   have g (i:Nat) (hi:i<4):AR [.flt .f32] (AV .f32 [a,r,t,q]) i=true:=B9 (by simpa using hi)
   have k0:CY (AV .f32 [a,r,t,q]) 0=a:=rfl
   have k1:CY (AV .f32 [a,r,t,q]) 1=r:=rfl
   have k2:CY (AV .f32 [a,r,t,q]) 2=t:=rfl
   have k3:CY (AV .f32 [a,r,t,q]) 3=q:=rfl
   have d0:decide ((0:Int)≤0∧(0:Int)<(([a,r,t,q].length:Nat):Int))=true:=rfl
   have d1:decide ((0:Int)≤1∧(1:Int)<(([a,r,t,q].length:Nat):Int))=true:=rfl
   have d2:decide ((0:Int)≤2∧(2:Int)<(([a,r,t,q].length:Nat):Int))=true:=rfl
   have d3:decide ((0:Int)≤3∧(3:Int)<(([a,r,t,q].length:Nat):Int))=true:=rfl
   have w0:AR [.flt .f32] (AV .f32 w) 0=true:=B9 (by omega)
   have q0:decide ((0:Int)≤0∧(0:Int)<(w.length:Int))=true:=decide_eq_true (by omega)
   simp only[Ef.eff,show ((3:Int)==0)=false from rfl,show ((3:Int)==1)=false from rfl,show ((3:Int)==2)=false from rfl,beq_self_eq_true,Ac,Al,g 0 (by decide),g 1 (by decide),g 2 (by decide),g 3 (by decide),k0,k1,k2,k3,d0,d1,d2,d3,w0,q0,zA,BJ]
   rw[Em]
   simp only[e1,AM,hs2]
   rfl
 | clip g =>
   obtain rfl:w=[]:=length_eq_zero_iff.1 hwl
   have e1:=ZH (n+97) g xs hx hl (by omega)
   have e1:f136 (n+101) xs.length (AV .f32 xs) g=_:=e1
   have g1:decide ((0:Int)≤0∧(0:Int)<(([g].length:Nat):Int))=true:=rfl
   have g2:AR [.flt .f32] (AV .f32 [g]) 0=true:=rfl
   have g3:CY (AV .f32 [g]) 0=g:=rfl
   have hs:Ai (Ef.clip g).step [] xs=(xs.map (HB g),[]):=I6 (HB g) xs
   simp only[Ef.eff,show ((4:Int)==0)=false from rfl,show ((4:Int)==1)=false from rfl,show ((4:Int)==2)=false from rfl,show ((4:Int)==3)=false from rfl,beq_self_eq_true,Ac,Al,g1,g2,g3,zA,BJ,e1,AM,hs,length_map]
   rfl
 | bend =>
   obtain rfl:w=[]:=length_eq_zero_iff.1 hwl
   have e1:=P3 (n+100) xs.length (AV .f32 xs) xs [] [] (n+101) (by simp;omega) (by simp;omega) (by omega)
   have e1:f100.l1 (n+101) (n+101) xs.length (AV .f32 xs) 0 [] xs.length (AV .f32 xs) (xs.length:Int) 0=_:=e1
   have hs:Ai Ef.bend.step [] xs=(xs.map JM,[]):=I6 JM xs
   simp only[Ef.eff,show ((5:Int)==0)=false from rfl,show ((5:Int)==1)=false from rfl,show ((5:Int)==2)=false from rfl,show ((5:Int)==3)=false from rfl,show ((5:Int)==4)=false from rfl,beq_self_eq_true,Ac,Al,e1,AM,hs]
   rfl
 | lim A k r =>
   have hA:A≤32∧Bj k∧(CW k&&H2 .f32 k 0)=true:=he
   have hwA:w.length=A+1:=hwl
   obtain ⟨gg,v,hs2,hs⟩:=Yy A k r xs w hwA
   have hk:=hA.2.2
   have e1:=QU n k r (w.getD 0 0) (w.drop 1) xs hA.2.1 hk (M3 hww 0) (fun y hy=>hww y (mem_of_mem_drop hy)) (by simp;omega) hx hl (by omega)
   rw[hs,length_drop] at e1
   have hfit:=RA (e:=.lim A k r) he xs ⟨hwl,hww⟩ hx
   have hv:v.length=A:=by
    have h1:(Ai (Ef.lim A k r).step w xs).2.length=A+1:=hfit.2.1
    rw[hs2] at h1
    simpa using h1
   have g1:decide ((0:Int)≤0∧(0:Int)<(([k,r].length:Nat):Int))=true:=rfl
   have g2:AR [.flt .f32] (AV .f32 [k,r]) 0=true:=rfl
   have g3:CY (AV .f32 [k,r]) 0=k:=rfl
   have g4:decide ((0:Int)≤1∧(1:Int)<(([k,r].length:Nat):Int))=true:=rfl
   have g5:AR [.flt .f32] (AV .f32 [k,r]) 1=true:=rfl
   have g6:CY (AV .f32 [k,r]) 1=r:=rfl
   have w0:AR [.flt .f32] (AV .f32 w) 0=true:=B9 (by omega)
   have q0:decide ((0:Int)≤0∧(0:Int)<(w.length:Int))=true:=decide_eq_true (by omega)
   have q1:decide ((0:Int)≤1∧(1:Int)≤(w.length:Int)∧(w.length:Int)≤(w.length:Int))=true:=decide_eq_true (by omega)
   have b1:Nat.ble (1+v.length) 2147483648=true:=by rw[Nat.ble_eq];omega
   simp only[Ef.eff,show ((6:Int)==0)=false from rfl,show ((6:Int)==1)=false from rfl,show ((6:Int)==2)=false from rfl,show ((6:Int)==3)=false from rfl,show ((6:Int)==4)=false from rfl,show ((6:Int)==5)=false from rfl,Al,g1,g2,g3,g4,g5,g6,w0,q0,q1,zA,BJ,XN]
   rw[Em]
   simp only[e1,AM,b1,BJ,hs2]
   rw[Nat.add_comm 1 v.length]
   rfl
theorem Qa (n:Nat) (hn:600<n) (N N2:Nat) (cs:List T) (es:List Ef) (hle:es.length≤100) (ho:∀ e∈es,e.Ok) (ls:List (List Nat)) (hf:Oi es ls):∀ (j i m:Nat) (P:List (List Nat)) (xs:List Nat),i+j=es.length→P.length≤i→GF xs→xs.length≤256→j<m →
  f67.l0 (n+102) m N cs ls.length (ls.map SM) xs.length (AV .f32 xs) P.length (P.map SM) es.length (AI (C8 es)) (es.length:Int) (i:Int) =
   some ((By (es.drop i) (ls.drop i) xs).1.length,AV .f32 (By (es.drop i) (ls.drop i) xs).1,(P++(By (es.drop i) (ls.drop i) xs).2).length,(P++(By (es.drop i) (ls.drop i) xs).2).map SM):=by
 have hlen:=hf.len
 intro j
 induction j with
 | zero =>
   intro i m P xs hi hP hx hl hm
   obtain ⟨m,rfl⟩:=zc m (by omega)
   rw[f67.l0,Bi (by omega),drop_eq_nil_of_le (show es.length≤i by omega),drop_eq_nil_of_le (show ls.length≤i by omega)]
   simp only[Al,By,append_nil]
 | succ j ih =>
   intro i m P xs hi hP hx hl hm
   obtain ⟨m,rfl⟩:=zc m (by omega)
   have h:i<es.length:=by omega
   have he:i<(C8 es).length:=by rw[DI];exact h
   have hil:i<ls.length:=by omega
   have hO:=ho _ (SK h)
   have hF:=hf.at i h
   have e1:=Rh n hO hF hx hl hn
   obtain ⟨f1,f2⟩:=RA hO xs hF hx
   have l1:(Ai (Fg es i).step (row ls i) xs).1.length=xs.length:=IW _ _ _
   have step:=ih (i+1) m (P++[(Ai (Fg es i).step (row ls i) xs).2]) (Ai (Fg es i).step (row ls i) xs).1 (by omega) (by simp;omega) f1 (by omega) (by omega)
   have hd:By (es.drop i) (ls.drop i) xs=((By (es.drop (i+1)) (ls.drop (i+1)) (Ai (Fg es i).step (row ls i) xs).1).1,(Ai (Fg es i).step (row ls i) xs).2::(By (es.drop (i+1)) (ls.drop (i+1)) (Ai (Fg es i).step (row ls i) xs).1).2):=by
    rw[Um h,Wl hil];rfl
   have hp:=Uz P (Ai (Fg es i).step (row ls i) xs).2
   rw[f67.l0,CQ h,BX h,BX hil,zT,Uw he,jH hil]
   simp only[Ac,zA,BJ,kE he,gE he,nE he,lE he,Ur h,nR hil,lR hil,e1,AM,BA (show P.length<2147483648 by omega),hp,Ar (show i<9223372036854775807 by omega)]
   rw[Bb (z:=(Ai (Fg es i).step (row ls i) xs).2),step,hd]
   simp
theorem SJ (n:Nat) (hn:600<n) (es:List Ef) (hle:es.length≤100) (ho:∀ e∈es,e.Ok) (ls:List (List Nat)) (hf:Oi es ls) (xs:List Nat) (hx:GF xs) (hl:xs.length≤256) :
  f67 (n+103) es.length (AI (C8 es)) ls.length (ls.map SM) xs.length (AV .f32 xs) =
   some ((By es ls xs).1.length,AV .f32 (By es ls xs).1,(By es ls xs).2.length,(By es ls xs).2.map SM):=by
 have e1:=Qa n hn es.length es.length (AI (C8 es)) es hle ho ls hf es.length 0 (n+102) [] xs (by omega) (by simp) hx hl (by omega)
 have e1:f67.l0 (n+102) (n+102) es.length (AI (C8 es)) ls.length (ls.map SM) xs.length (AV .f32 xs) 0 [] es.length (AI (C8 es)) (es.length:Int) 0=_:=e1
 have e0:=Hr (n+101) xs (by omega)
 have e0:f34 (n+102) xs.length (AV .f32 xs)=_:=e0
 rw[f67,e0]
 simp only[AM,e1,drop_zero,nil_append]
theorem Wd (n:Nat) (l:Nat):f147 (n+2) l=some (CW l&&H2 .f32 l 0):=by
 have e:f171 (n+1) l=some (CW l):=by rw[f171,OH]
 rw[f147,e]
 cases CW l <;>rfl
def JD (e:Bn):Bool :=
 if e.kind=0∨e.kind=4 then decide (e.len=0∧e.nums.length=1)
 else if e.kind=1 then decide (e.len=0∧e.nums.length=5)
 else if e.kind=2 then decide ((1≤e.len∧e.len≤32)∧e.nums.length=2)
 else if e.kind=3 then decide (e.len=0∧e.nums.length=4)
 else if e.kind=5 then decide (e.len=0∧e.nums.length=0)
 else if e.kind=6 then decide ((0≤e.len∧e.len≤32)∧e.nums.length=2)&&(CW (e.nums.getD 0 0)&&H2 .f32 (e.nums.getD 0 0) 0)
 else false
theorem bi (n:Nat) (a b:Int) (c:Nat) (l:List T) (lo hi k:Int):f129 (n+2) a b c l lo hi k=some (decide (lo≤b∧b≤hi)&&((c:Int)==k)):=by
 rw[f129,QJ]
 simp only[AM]
 cases decide (lo≤b∧b≤hi) <;>rfl
theorem OP (k:Int):k=0∨k=1∨k=2∨k=3∨k=4∨k=5∨k=6∨((k==0)=false∧(k==1)=false∧(k==2)=false∧(k==3)=false∧(k==4)=false∧(k==5)=false∧(k==6)=false):=by
 simp only[beq_eq_false_iff_ne];omega
theorem Eu (b:Int) (c:Nat) (k:Nat):(decide ((0:Int)≤b∧b≤0)&&((c:Int)==(k:Int)))=decide (b=0∧c=k):=by
 rw[Bool.eq_iff_iff];simp;omega
theorem YK (n:Nat) (e:Bn):f99 (n+4) e.kind e.len e.nums.length (AV .f32 e.nums)=some (JD e):=by
 obtain ⟨k,b,l⟩:=e
 rw[f99]
 unfold JD
 simp only[bi (n+1)]
 rcases OP k with rfl | rfl | rfl | rfl | rfl | rfl | rfl | ⟨h0,h1,h2,h3,h4,h5,h6⟩
 ·have:=Eu b l.length 1
  simp only[beq_self_eq_true,Ac,AM]
  rw[show ((1:Nat):Int)=1 from rfl] at this
  rw[this];rfl
 ·have:=Eu b l.length 5
  simp only[show ((1:Int)==0)=false from rfl,show ((1:Int)==4)=false from rfl,beq_self_eq_true,Ac,Al,AM]
  rw[show ((5:Nat):Int)=5 from rfl] at this
  rw[this];rfl
 ·simp only[show ((2:Int)==0)=false from rfl,show ((2:Int)==4)=false from rfl,show ((2:Int)==1)=false from rfl,beq_self_eq_true,Ac,Al,AM]
  congr 1
  rw[if_neg (by decide),if_neg (by decide),if_pos trivial,Bool.eq_iff_iff];simp;omega
 ·have:=Eu b l.length 4
  simp only[show ((3:Int)==0)=false from rfl,show ((3:Int)==4)=false from rfl,show ((3:Int)==1)=false from rfl,show ((3:Int)==2)=false from rfl,beq_self_eq_true,Ac,Al,AM]
  rw[show ((4:Nat):Int)=4 from rfl] at this
  rw[this];rfl
 ·have:=Eu b l.length 1
  simp only[show ((4:Int)==0)=false from rfl,beq_self_eq_true,Ac,Al,AM]
  rw[show ((1:Nat):Int)=1 from rfl] at this
  rw[this];rfl
 ·have:=Eu b l.length 0
  simp only[show ((5:Int)==0)=false from rfl,show ((5:Int)==4)=false from rfl,show ((5:Int)==1)=false from rfl,show ((5:Int)==2)=false from rfl,show ((5:Int)==3)=false from rfl,beq_self_eq_true,Ac,Al,AM]
  rw[show ((0:Nat):Int)=0 from rfl] at this
  rw[this];rfl
 ·simp only[show ((6:Int)==0)=false from rfl,show ((6:Int)==4)=false from rfl,show ((6:Int)==1)=false from rfl,show ((6:Int)==2)=false from rfl,show ((6:Int)==3)=false from rfl,show ((6:Int)==5)=false from rfl,beq_self_eq_true,Ac,Al,AM]
  rw[if_neg (by decide),if_neg (by decide),if_neg (by decide),if_neg (by decide),if_neg (by decide),if_pos trivial]
  by_cases hv:(0≤b∧b≤32)∧l.length=2
  ·rw[decide_eq_true hv.1,decide_eq_true hv,show (((l.length:Nat):Int)==2)=true by rw[hv.2];rfl,decide_eq_true (show (0:Int)≤0∧(0:Int)<((l.length:Nat):Int) by omega),B9 (by omega)]
   simp only[zA,Ac,BJ,LY,AM,Em,Bool.true_and]
  ·rw[decide_eq_false hv]
   have:(decide (0≤b∧b≤32)&&(((l.length:Nat):Int)==2))=false:=by
    rw[Bool.eq_false_iff];intro h;apply hv;simp at h;omega
   rw[this];rfl
 ·simp only[h0,h1,h2,h3,h4,h5,h6,Al]
  simp only[beq_eq_false_iff_ne] at h0 h1 h2 h3 h4 h5 h6
  rw[if_neg (by simp[h0,h4]),if_neg h1,if_neg h2,if_neg h3,if_neg h5,if_neg h6]
theorem aG (n:Nat) (e:Bn):f107 (n+4) e.kind e.len e.nums.length (AV .f32 e.nums)=some (JD e):=by
 obtain ⟨k,b,l⟩:=e
 rw[f107]
 unfold JD
 simp only[YD (n+2)]
 have cut:∀ (lo hi:Int) (c d:Int) (v:Option Bool),f93 (n+3) k b=some (c,d) →
   (bd (some (decide (lo≤b∧b≤hi))) fun r=>br (!r) (some false) (bd (f93 (n+3) k b) fun r7=>br (((l.length:Nat):Int)==r7.1) v (some false)))=br (decide (lo≤b∧b≤hi)&&(((l.length:Nat):Int)==c)) v (some false):=by
  intro lo hi c d v h
  rw[h]
  simp only[AM]
  cases decide (lo≤b∧b≤hi) <;>rfl
 rcases OP k with rfl | rfl | rfl | rfl | rfl | rfl | rfl | ⟨h0,h1,h2,h3,h4,h5,h6⟩
 ·have c:=cut 0 0 1 0 (some true) (by rw[f93];rfl)
  have:=Eu b l.length 1
  rw[show ((1:Nat):Int)=1 from rfl] at this
  simp only[show ((0:Int)==2)=false from rfl,show ((0:Int)==6)=false from rfl,Al,show ((0:Int) != 6)=true from rfl,Ac]
  refine c.trans ?_
  rw[this]
  show br (decide (b=0∧l.length=1)) (some true) (some false)=some (decide (b=0∧l.length=1))
  cases decide (b=0∧l.length=1) <;>rfl
 ·have c:=cut 0 0 5 2 (some true) (by rw[f93];rfl)
  have:=Eu b l.length 5
  rw[show ((5:Nat):Int)=5 from rfl] at this
  simp only[show ((1:Int)==2)=false from rfl,show ((1:Int)==6)=false from rfl,Al,show ((1:Int) != 6)=true from rfl,Ac]
  refine c.trans ?_
  rw[this]
  show br (decide (b=0∧l.length=5)) (some true) (some false)=some (decide (b=0∧l.length=5))
  cases decide (b=0∧l.length=5) <;>rfl
 ·have c:=cut 1 32 2 b (some true) (by rw[f93];rfl)
  simp only[beq_self_eq_true,show ((2:Int)==6)=false from rfl,Al,show ((2:Int) != 6)=true from rfl,Ac]
  refine c.trans ?_
  have e:(decide (1≤b∧b≤32)&&(((l.length:Nat):Int)==2))=decide ((1≤b∧b≤32)∧l.length=2):=by rw[Bool.eq_iff_iff];simp;omega
  rw[e,if_neg (by decide),if_neg (by decide),if_pos trivial]
  cases decide ((1≤b∧b≤32)∧l.length=2) <;>rfl
 ·have c:=cut 0 0 4 1 (some true) (by rw[f93];rfl)
  have:=Eu b l.length 4
  rw[show ((4:Nat):Int)=4 from rfl] at this
  simp only[show ((3:Int)==2)=false from rfl,show ((3:Int)==6)=false from rfl,Al,show ((3:Int) != 6)=true from rfl,Ac]
  refine c.trans ?_
  rw[this]
  show br (decide (b=0∧l.length=4)) (some true) (some false)=some (decide (b=0∧l.length=4))
  cases decide (b=0∧l.length=4) <;>rfl
 ·have c:=cut 0 0 1 0 (some true) (by rw[f93];rfl)
  have:=Eu b l.length 1
  rw[show ((1:Nat):Int)=1 from rfl] at this
  simp only[show ((4:Int)==2)=false from rfl,show ((4:Int)==6)=false from rfl,Al,show ((4:Int) != 6)=true from rfl,Ac]
  refine c.trans ?_
  rw[this]
  show br (decide (b=0∧l.length=1)) (some true) (some false)=some (decide (b=0∧l.length=1))
  cases decide (b=0∧l.length=1) <;>rfl
 ·have c:=cut 0 0 0 0 (some true) (by rw[f93];rfl)
  have:=Eu b l.length 0
  rw[show ((0:Nat):Int)=0 from rfl] at this
  simp only[show ((5:Int)==2)=false from rfl,show ((5:Int)==6)=false from rfl,Al,show ((5:Int) != 6)=true from rfl,Ac]
  refine c.trans ?_
  rw[this]
  show br (decide (b=0∧l.length=0)) (some true) (some false)=some (decide (b=0∧l.length=0))
  cases decide (b=0∧l.length=0) <;>rfl
 ·have c:=fun v=>cut 0 32 2 (IntKind.i64.wrap (1+b)) v (by rw[f93];rfl)
  simp only[show ((6:Int)==2)=false from rfl,beq_self_eq_true,Al,show ((6:Int) != 6)=false from rfl,Ac]
  refine (c _).trans ?_
  have e:(decide (0≤b∧b≤32)&&(((l.length:Nat):Int)==2))=decide ((0≤b∧b≤32)∧l.length=2):=by rw[Bool.eq_iff_iff];simp;omega
  rw[e,if_neg (by decide),if_neg (by decide),if_neg (by decide),if_neg (by decide),if_neg (by decide),if_pos trivial]
  by_cases hv:(0≤b∧b≤32)∧l.length=2
  ·rw[decide_eq_true hv,decide_eq_true (show (0:Int)≤0∧(0:Int)<((l.length:Nat):Int) by omega),B9 (by omega),Wd (n+1)]
   simp only[zA,Ac,BJ,AM,Em,Bool.true_and]
  ·rw[decide_eq_false hv];rfl
 ·have hc:f93 (n+3) k b=some (-1,-1):=by
   rw[f93];simp only[h0,h1,h2,h3,h4,h5,h6,Al]
  have c:=fun v=>cut 0 0 (-1) (-1) v hc
  simp only[h2,h6,Al]
  refine (c _).trans ?_
  simp only[beq_eq_false_iff_ne] at h0 h1 h2 h3 h4 h5 h6
  rw[if_neg (by simp[h0,h4]),if_neg h1,if_neg h2,if_neg h3,if_neg h5,if_neg h6,show (((l.length:Nat):Int) == -1)=false by rw[beq_eq_false_iff_ne];omega,Bool.and_false]
  rfl
def Zs (e:Bn):Prop:=IX .i64 e.kind∧IX .i64 e.len∧(∀ x∈e.nums,Bj x)
def Gn (cs:List Bn):Bool:=decide (cs.length≤8)&&cs.all JD
theorem Rq {cs:List Bn} {i:Nat} (h:i<cs.length):(cs.drop i).all JD=(JD (A9 cs i)&&(cs.drop (i+1)).all JD):=by
 rw[E7 h,all_cons]
theorem Oj (n:Nat) (N:Nat) (ts:List T) (cs:List Bn) (hl:cs.length≤100):∀ (j i m:Nat),i+j=cs.length→j<m →
  f63.l0 (n+4) m N ts cs.length (AI cs) (cs.length:Int) (i:Int)=some (if (cs.drop i).all JD then Sum.inr () else Sum.inl false):=by
 intro j
 induction j with
 | zero =>
   intro i m hi hm
   obtain ⟨m,rfl⟩:=zc m (by omega)
   rw[f63.l0,Bi (by omega),drop_eq_nil_of_le (by omega)];rfl
 | succ j ih =>
   intro i m hi hm
   obtain ⟨m,rfl⟩:=zc m (by omega)
   have h:i<cs.length:=by omega
   rw[f63.l0,CQ h,BX h,zT,Uw h,Rq h]
   simp only[Ac,zA,BJ,kE h,gE h,nE h,lE h,YK n (A9 cs i),AM,Ar (show i<9223372036854775807 by omega)]
   cases JD (A9 cs i)
   ·rfl
   ·simp only[Bool.not_true,Al,Bool.true_and]
    exact ih (i+1) m (by omega) (by omega)
theorem YJ (n:Nat) (cs:List Bn) (hn:100<n):f63 (n+5) cs.length (AI cs)=some (Gn cs):=by
 rw[f63]
 unfold Gn
 by_cases h:cs.length≤8
 ·have e:=Oj n cs.length (AI cs) cs (by omega) cs.length 0 (n+4) (by omega) (by omega)
  have e:f63.l0 (n+4) (n+4) cs.length (AI cs) cs.length (AI cs) (cs.length:Int) 0=_:=e
  rw[decide_eq_false (by omega),e,decide_eq_true h,drop_zero]
  cases cs.all JD <;>rfl
 ·rw[decide_eq_true (by omega),decide_eq_false h];rfl
theorem OW (n:Nat) (cs:List Bn) (hl:cs.length≤8):∀ (j i m:Nat),i+j=cs.length→j<m →
  f78.l0 (n+4) m cs.length (AI cs) (i:Int)=some (if (cs.drop i).all JD then Sum.inr (cs.length,AI cs) else Sum.inl false):=by
 intro j
 induction j with
 | zero =>
   intro i m hi hm
   obtain ⟨m,rfl⟩:=zc m (by omega)
   rw[f78.l0,Bi (by omega),drop_eq_nil_of_le (by omega)];rfl
 | succ j ih =>
   intro i m hi hm
   obtain ⟨m,rfl⟩:=zc m (by omega)
   have h:i<cs.length:=by omega
   rw[f78.l0,CQ h,BX h,zT,Uw h,Rq h,decide_eq_true (show (cs.length:Int)≤8 by omega)]
   simp only[Ac,zA,BJ,kE h,gE h,nE h,lE h,aG n (A9 cs i),AM,Ar (show i<9223372036854775807 by omega)]
   cases JD (A9 cs i)
   ·rfl
   ·simp only[Bool.not_true,Al,Bool.true_and]
    exact ih (i+1) m (by omega) (by omega)
theorem YB (n:Nat) (cs:List Bn) (hn:100<n):f78 (n+5) cs.length (AI cs)=some (Gn cs):=by
 rw[f78]
 unfold Gn
 by_cases h:cs.length≤8
 ·have e:=OW n cs h cs.length 0 (n+4) (by omega) (by omega)
  have e:f78.l0 (n+4) (n+4) cs.length (AI cs) 0=_:=e
  rw[e,decide_eq_true h,drop_zero]
  cases cs.all JD
  ·rfl
  ·simp only[if_true,AM,Yr,Bool.true_and,decide_eq_true (show (cs.length:Int)≤8 by omega)]
 ·have e:f78.l0 (n+4) (n+4) cs.length (AI cs) 0=some (Sum.inr (cs.length,AI cs)):=by
   rw[show n+4=(n+3)+1 from rfl,f78.l0,decide_eq_true (show (0:Int)<(cs.length:Int) by omega),decide_eq_false (show ¬ (cs.length:Int)≤8 by omega)]
   rfl
  rw[e,decide_eq_false h]
  simp only[AM,Yr,Bool.false_and,decide_eq_false (show ¬ (cs.length:Int)≤8 by omega)]
structure BP where
 es:List Bn
 tn:Int
 pan:Nat
 mute:Bool
 solo:Bool
def TR (s:BP):List T:=[.lst s.es.length (AI s.es),.int .i64 s.tn,.flt .f32 s.pan,.bool s.mute,.bool s.solo]
def AW (ss:List BP):List T:=ss.flatMap TR
def Bx (ss:List BP) (i:Nat):BP:=ss.getD i ⟨[],0,0,false,false⟩
theorem FN {c:Nat} (hc:c<5):∀ (ts:List BP) (i:Nat),i<ts.length→(AW ts)[i * 5+c]?=(TR (Bx ts i))[c]?
 | [],i,h=>by simp at h
 | t::ts,0,_=>by
   show (TR t++AW ts)[0 * 5+c]?=_
   rw[List.getElem?_append_left (by simp[TR];omega),Nat.zero_mul,Nat.zero_add];rfl
 | t::ts,i+1,h=>by
   show (TR t++AW ts)[(i+1) * 5+c]?=_
   rw[List.getElem?_append_right (by simp[TR];omega),show (i+1) * 5+c - (TR t).length=i * 5+c by simp[TR];omega,FN hc ts i (by simpa using h)]
   rfl
section
variable {ts:List BP} {i:Nat} (h:i<ts.length)
include h
theorem Vx:AR [.lst,.int .i64,.flt .f32,.bool,.bool] (AW ts) (i * 5+0)=true:=by
 have h0:=FN (c:=0) (by decide) ts i h
 have h1:=FN (c:=1) (by decide) ts i h
 have h2:=FN (c:=2) (by decide) ts i h
 have h3:=FN (c:=3) (by decide) ts i h
 have h4:=FN (c:=4) (by decide) ts i h
 simp only[TR,List.getElem?_cons_zero,List.getElem?_cons_succ] at h0 h1 h2 h3 h4
 rw[Nat.add_zero] at h0
 simp[AR,Nat.add_assoc,h0,h1,h2,h3,h4,Ml]
theorem dz:HP (AW ts) (i * 5+0)=(Bx ts i).es.length:=by unfold HP;rw[FN (c:=0) (by decide) ts i h];rfl
theorem ei:H1 (AW ts) (i * 5+0)=AI (Bx ts i).es:=by unfold H1;rw[FN (c:=0) (by decide) ts i h];rfl
theorem d7:FA (AW ts) (i * 5+0+1)=(Bx ts i).tn:=by unfold FA;rw[show i * 5+0+1=i * 5+1 from rfl,FN (c:=1) (by decide) ts i h];rfl
theorem eT:CY (AW ts) (i * 5+0+1+1)=(Bx ts i).pan:=by unfold CY;rw[show i * 5+0+1+1=i * 5+2 from rfl,FN (c:=2) (by decide) ts i h];rfl
theorem fA:KD (AW ts) (i * 5+0+1+1+1)=(Bx ts i).mute:=by unfold KD;rw[show i * 5+0+1+1+1=i * 5+3 from rfl,FN (c:=3) (by decide) ts i h];rfl
theorem fD:KD (AW ts) (i * 5+0+1+1+1+1)=(Bx ts i).solo:=by unfold KD;rw[show i * 5+0+1+1+1+1=i * 5+4 from rfl,FN (c:=4) (by decide) ts i h];rfl
theorem RM:ts.drop i=Bx ts i::ts.drop (i+1):=by
 rw[drop_eq_getElem_cons h]
 simp[Bx,List.getD,h]
theorem IF:Bx ts i∈ts:=by
 have:Bx ts i=ts[i]:=by simp[Bx,List.getD,h]
 rw[this];exact List.getElem_mem h
end
def H6 (x:Nat):Bool:=LH .f32 x 0&&UM .f32 x 1065353216
def WE (s:BP):Bool:=Gn s.es&&(decide (-2000≤s.tn∧s.tn≤2000)&&H6 s.pan)
def WF (n:Nat) (c:Bn):Bool:=decide (0≤c.kind∧c.kind≤(n:Int) - 1)&&(decide (0≤c.len∧c.len≤256)&&decide (c.nums.length≤256))
def E9 (cl:List Bn) (ss:List BP):Bool:=decide (1≤ss.length∧ss.length≤8)&&(decide (cl.length≤12)&&(ss.all WE&&cl.all (WF ss.length)))
theorem W9 (n x:Nat):f65 (n+1) x=some (H6 x):=by
 rw[f65];unfold H6;cases LH .f32 x 0 <;>rfl
theorem av (n x:Nat):f108 (n+1) x=some (H6 x):=by
 rw[f108];unfold H6;cases LH .f32 x 0 <;>rfl
theorem Rt (n:Nat) (t:Int):f64 (n+2) t=some (decide (-2000≤t∧t≤2000)):=by rw[f64,QJ];rfl
theorem Uk (n:Nat) (t:Int):f26 (n+2) t=some (decide (0≤t∧t≤256)):=by rw[f26,QJ];rfl
theorem Un (n:Nat) (t:Int) (k:Nat) (hk:k≤1099511627776):f31 (n+2) t (k:Int)=some (decide (0≤t∧t≤(k:Int) - 1)):=by
 rw[f31,show IntKind.i64.wrap ((k:Int) - 1)=(k:Int) - 1 by rw[A6] <;>omega,QJ];rfl
theorem Y6 (n:Nat) (t:Int):f62 (n+2) t=some (decide (1≤t∧t≤8)):=by rw[f62,QJ];rfl
theorem YR {ss:List BP} {i:Nat} (h:i<ss.length):(ss.drop i).all WE=(WE (Bx ss i)&&(ss.drop (i+1)).all WE):=by
 rw[RM h,all_cons]
theorem WQ {cs:List Bn} {i n:Nat} (h:i<cs.length):(cs.drop i).all (WF n)=(WF n (A9 cs i)&&(cs.drop (i+1)).all (WF n)):=by
 rw[E7 h,all_cons]
theorem Vr (n:Nat) (hn:100<n) (N:Nat) (ts:List T) (M:Nat) (us:List T) (ss:List BP) (hl:ss.length≤100):∀ (j i m:Nat),i+j=ss.length→j<m →
  f25.l0 (n+5) m N ts M us ss.length (AW ss) (ss.length:Int) (i:Int)=some (if (ss.drop i).all WE then Sum.inr (N,ts,M,us) else Sum.inl false):=by
 intro j
 induction j with
 | zero =>
   intro i m hi hm
   obtain ⟨m,rfl⟩:=zc m (by omega)
   rw[f25.l0,Bi (by omega),drop_eq_nil_of_le (by omega)];rfl
 | succ j ih =>
   intro i m hi hm
   obtain ⟨m,rfl⟩:=zc m (by omega)
   have h:i<ss.length:=by omega
   rw[f25.l0,CQ h,BX h,zT,Vx h,YR h]
   simp only[Ac,zA,BJ,dz h,ei h,d7 h,eT h,YJ n (Bx ss i).es hn,Rt (n+3),W9 (n+4),AM,Ar (show i<9223372036854775807 by omega)]
   unfold WE
   cases Gn (Bx ss i).es
   ·rfl
   ·cases decide (-2000≤(Bx ss i).tn∧(Bx ss i).tn≤2000)
    ·rfl
    ·cases H6 (Bx ss i).pan
     ·rfl
     ·simp only[Bool.not_true,Al,Bool.true_and]
      exact ih (i+1) m (by omega) (by omega)
theorem VR (n:Nat) (N:Nat) (ts:List T) (M:Nat) (us:List T) (hM:M≤1000) (cs:List Bn) (hl:cs.length≤100):∀ (j i m:Nat),i+j=cs.length→j<m →
  f25.l1 (n+2) m N ts M us cs.length (AI cs) (cs.length:Int) (i:Int)=some (if (cs.drop i).all (WF M) then Sum.inr () else Sum.inl false):=by
 intro j
 induction j with
 | zero =>
   intro i m hi hm
   obtain ⟨m,rfl⟩:=zc m (by omega)
   rw[f25.l1,Bi (by omega),drop_eq_nil_of_le (by omega)];rfl
 | succ j ih =>
   intro i m hi hm
   obtain ⟨m,rfl⟩:=zc m (by omega)
   have h:i<cs.length:=by omega
   have e3:decide (((A9 cs i).nums.length:Int)≤256)=decide ((A9 cs i).nums.length≤256):=by rw[decide_eq_decide];omega
   rw[f25.l1,CQ h,BX h,zT,Uw h,WQ h]
   simp only[Ac,zA,BJ,kE h,gE h,nE h,lE h,Un n (A9 cs i).kind M (by omega),Uk n,Ud,e3,AM,Ar (show i<9223372036854775807 by omega)]
   unfold WF
   cases decide (0≤(A9 cs i).kind∧(A9 cs i).kind≤(M:Int) - 1)
   ·rfl
   ·cases decide (0≤(A9 cs i).len∧(A9 cs i).len≤256)
    ·rfl
    ·cases decide ((A9 cs i).nums.length≤256)
     ·rfl
     ·simp only[Bool.not_true,Al,Bool.true_and]
      exact ih (i+1) m (by omega) (by omega)
theorem QR (n:Nat) (cl:List Bn) (ss:List BP) (hn:200<n):f25 (n+6) cl.length (AI cl) ss.length (AW ss)=some (E9 cl ss):=by
 rw[f25,Qg (n+4)]
 simp only[AM,Y6 (n+3)]
 unfold E9
 by_cases h1:1≤ss.length∧ss.length≤8
 ·rw[decide_eq_true h1,decide_eq_true (show (1:Int)≤(ss.length:Int)∧(ss.length:Int)≤8 by omega)]
  by_cases h2:cl.length≤12
  ·rw[decide_eq_true h2,decide_eq_false (show ¬ (cl.length:Int)>12 by omega)]
   have e1:=Vr n (by omega) cl.length (AI cl) ss.length (AW ss) ss (by omega) ss.length 0 (n+5) (by omega) (by omega)
   have e1:f25.l0 (n+5) (n+5) cl.length (AI cl) ss.length (AW ss) ss.length (AW ss) (ss.length:Int) 0=_:=e1
   have e2:=VR (n+3) cl.length (AI cl) ss.length (AW ss) (by omega) cl (by omega) cl.length 0 (n+5) (by omega) (by omega)
   have e2:f25.l1 (n+5) (n+5) cl.length (AI cl) ss.length (AW ss) cl.length (AI cl) (cl.length:Int) 0=_:=e2
   simp only[Bool.not_true,Al,e1,drop_zero,Bool.true_and]
   cases ss.all WE
   ·rfl
   ·simp only[if_true,AM,Yr,e2,drop_zero,Bool.true_and]
    cases cl.all (WF ss.length) <;>rfl
  ·rw[decide_eq_false h2,decide_eq_true (show (cl.length:Int)>12 by omega)];rfl
 ·rw[decide_eq_false h1,decide_eq_false (show ¬ ((1:Int)≤(ss.length:Int)∧(ss.length:Int)≤8) by omega)];rfl
theorem XM (n:Nat) (a:Nat) (b:List T) (c:Int) (d:Nat) (e f:Bool) (g:Nat) (h:List T):∃ x y,f44 (n+1) a b c d e f g h=some (g,h,c,d,e,f,x,y):=by
 rw[f44];exact ⟨_,_,rfl⟩
theorem Vk (n:Nat) (hn:10<n) (c:Int) (d:Nat) (e f:Bool):f79 (n+2) 1 (AF (reps 1 [(T.lst 0 []),(T.int .i64 (0:Int)),(T.flt .f32 0),(T.bool false),(T.bool false)]) 0 [(T.lst 0 (reps 0 [(T.flt .f32 0)])),(T.int .i64 c),(T.flt .f32 d),(T.bool e),(T.bool f)])=some (decide (-2000≤c∧c≤2000)&&H6 d):=by
 obtain ⟨n,rfl⟩:∃ k,n=k+2:=⟨n - 2,by omega⟩
 have hs:AF (reps 1 [(T.lst 0 []),(T.int .i64 (0:Int)),(T.flt .f32 0),(T.bool false),(T.bool false)]) 0 [(T.lst 0 (reps 0 [(T.flt .f32 0)])),(T.int .i64 c),(T.flt .f32 d),(T.bool e),(T.bool f)]=[(T.lst 0 []),(T.int .i64 c),(T.flt .f32 d),(T.bool e),(T.bool f)]:=rfl
 have l1:f79.l0 (n+2+1) (n+2+1) 1 [(T.lst 0 []),(T.int .i64 c),(T.flt .f32 d),(T.bool e),(T.bool f)] ((1:Nat):Int) 0=some (if decide (-2000≤c∧c≤2000)&&H6 d then Sum.inr (1,[(T.lst 0 []),(T.int .i64 c),(T.flt .f32 d),(T.bool e),(T.bool f)]) else Sum.inl false):=by
  rw[f79.l0]
  have k0:decide ((0:Int)<((1:Nat):Int))=true:=rfl
  have k1:decide ((0:Int)≤0∧(0:Int)<((1:Nat):Int))=true:=rfl
  have k2:AR [.lst,.int .i64,.flt .f32,.bool,.bool] [(T.lst 0 []),(T.int .i64 c),(T.flt .f32 d),(T.bool e),(T.bool f)] (Int.toNat 0 * 5+0)=true:=rfl
  have k3:HP [(T.lst 0 []),(T.int .i64 c),(T.flt .f32 d),(T.bool e),(T.bool f)] (Int.toNat 0 * 5+0)=0:=rfl
  have k4:FA [(T.lst 0 []),(T.int .i64 c),(T.flt .f32 d),(T.bool e),(T.bool f)] (Int.toNat 0 * 5+0+1)=c:=rfl
  have k5:CY [(T.lst 0 []),(T.int .i64 c),(T.flt .f32 d),(T.bool e),(T.bool f)] (Int.toNat 0 * 5+0+1+1)=d:=rfl
  rw[k0,k1,k2,k3,k4,k5]
  simp only[Ac,zA,BJ,Zw,AM,YD,av]
  cases decide (-2000≤c∧c≤2000)
  ·rfl
  ·cases H6 d
   ·rfl
   ·show f79.l0 (n+2+1) (n+2) 1 _ ((1:Nat):Int) 1=_
    rw[f79.l0];rfl
 rw[hs,f79,l1]
 cases decide (-2000≤c∧c≤2000)&&H6 d <;>rfl
theorem VX (n:Nat) (hn:100<n) (N:Nat) (ts:List T) (i5:Int) (ss:List BP) (hl:ss.length≤100):∀ (j i m:Nat),i+j=ss.length→j<m →
  f37.l0 (n+5) m N ts ss.length (AW ss) i5 (ss.length:Int) (i:Int)=some (if (ss.drop i).all WE then Sum.inr (N,ts,ss.length,AW ss,i5) else Sum.inl false):=by
 intro j
 induction j with
 | zero =>
   intro i m hi hm
   obtain ⟨m,rfl⟩:=zc m (by omega)
   rw[f37.l0,Bi (by omega),drop_eq_nil_of_le (by omega)];rfl
 | succ j ih =>
   intro i m hi hm
   obtain ⟨m,rfl⟩:=zc m (by omega)
   have h:i<ss.length:=by omega
   rw[f37.l0,CQ h,BX h,zT,Vx h,YR h]
   simp only[Ac,zA,BJ,dz h,ei h,d7 h,eT h,fA h,fD h]
   obtain ⟨x,y,e1⟩:=XM (n+4) (Bx ss i).es.length (AI (Bx ss i).es) (Bx ss i).tn (Bx ss i).pan (Bx ss i).mute (Bx ss i).solo 0 (reps 0 [(T.flt .f32 0)])
   rw[e1]
   have e2:=Vk (n+3) (by omega) (Bx ss i).tn (Bx ss i).pan (Bx ss i).mute (Bx ss i).solo
   simp only[AM,YB n (Bx ss i).es hn,e2,Ar (show i<9223372036854775807 by omega)]
   unfold WE
   cases Gn (Bx ss i).es
   ·rfl
   ·cases decide (-2000≤(Bx ss i).tn∧(Bx ss i).tn≤2000)&&H6 (Bx ss i).pan
    ·rfl
    ·simp only[Bool.not_true,Al,Bool.true_and]
     exact ih (i+1) m (by omega) (by omega)
theorem Vm (n:Nat) (N:Nat) (ts:List T) (M:Nat) (hM:M≤1000) (cs:List Bn) (hl:cs.length≤100):∀ (j i m:Nat),i+j=cs.length→j<m →
  f37.l1 (n+2) m cs.length (AI cs) N ts (M:Int) (cs.length:Int) (i:Int)=some (if (cs.drop i).all (WF M) then Sum.inr () else Sum.inl false):=by
 intro j
 induction j with
 | zero =>
   intro i m hi hm
   obtain ⟨m,rfl⟩:=zc m (by omega)
   rw[f37.l1,Bi (by omega),drop_eq_nil_of_le (by omega)];rfl
 | succ j ih =>
   intro i m hi hm
   obtain ⟨m,rfl⟩:=zc m (by omega)
   have h:i<cs.length:=by omega
   have e3:decide (((A9 cs i).nums.length:Int)≤256)=decide ((A9 cs i).nums.length≤256):=by rw[decide_eq_decide];omega
   rw[f37.l1,CQ h,BX h,zT,Uw h,WQ h,show IntKind.i64.wrap ((M:Int) - 1)=(M:Int) - 1 by rw[A6] <;>omega]
   simp only[Ac,zA,BJ,kE h,gE h,nE h,lE h,YD (n+1),Zw,e3,AM,Ar (show i<9223372036854775807 by omega)]
   unfold WF
   cases decide (0≤(A9 cs i).kind∧(A9 cs i).kind≤(M:Int) - 1)
   ·rfl
   ·cases decide (0≤(A9 cs i).len∧(A9 cs i).len≤256)
    ·rfl
    ·cases decide ((A9 cs i).nums.length≤256)
     ·rfl
     ·simp only[Bool.not_true,Al,Bool.true_and]
      exact ih (i+1) m (by omega) (by omega)
theorem UV (n:Nat) (cl:List Bn) (ss:List BP) (hn:200<n):f37 (n+6) cl.length (AI cl) ss.length (AW ss)=some (E9 cl ss):=by
 rw[f37]
 simp only[AM,YD (n+4)]
 unfold E9
 by_cases h1:1≤ss.length∧ss.length≤8
 ·rw[decide_eq_true h1,decide_eq_true (show (1:Int)≤(ss.length:Int)∧(ss.length:Int)≤8 by omega)]
  by_cases h2:cl.length≤12
  ·rw[decide_eq_true h2,decide_eq_false (show ¬ (cl.length:Int)>12 by omega)]
   have e1:=VX n (by omega) cl.length (AI cl) (ss.length:Int) ss (by omega) ss.length 0 (n+5) (by omega) (by omega)
   have e1:f37.l0 (n+5) (n+5) cl.length (AI cl) ss.length (AW ss) (ss.length:Int) (ss.length:Int) 0=_:=e1
   have e2:=Vm (n+3) ss.length (AW ss) ss.length (by omega) cl (by omega) cl.length 0 (n+5) (by omega) (by omega)
   have e2:f37.l1 (n+5) (n+5) cl.length (AI cl) ss.length (AW ss) (ss.length:Int) (cl.length:Int) 0=_:=e2
   simp only[Bool.not_true,Al,e1,drop_zero,Bool.true_and]
   cases ss.all WE
   ·rfl
   ·simp only[if_true,AM,Yr,e2,drop_zero,Bool.true_and]
    cases cl.all (WF ss.length) <;>rfl
  ·rw[decide_eq_false h2,decide_eq_true (show (cl.length:Int)>12 by omega)];rfl
 ·rw[decide_eq_false h1,decide_eq_false (show ¬ ((1:Int)≤(ss.length:Int)∧(ss.length:Int)≤8) by omega)];rfl
def IN (p:Int) (x:Nat) (out:List Nat):List Nat:=if 0≤p∧p<(out.length:Int) then out.set p.toNat (BD .f32 (out.getD p.toNat 0) x) else out
def DU:Int→List Nat→List Nat→List Nat
 | _,[],out=>out
 | p,x::xs,out=>DU (p+1) xs (IN p x out)
def BZ (track frm:Int):List Bn→List Nat→List Nat
 | [],out=>out
 | c::cs,out=>BZ track frm cs (if c.kind=track then DU (c.len - frm) c.nums out else out)
theorem Hq (p:Int) (x:Nat) (out:List Nat):(IN p x out).length=out.length:=by unfold IN;split <;>simp
theorem GC:∀ (xs:List Nat) (p:Int) (out:List Nat),(DU p xs out).length=out.length
 | [],_,_=>rfl
 | x::xs,p,out=>by rw[DU,GC xs,Hq]
theorem ER (track frm:Int):∀ (cs:List Bn) (out:List Nat),(BZ track frm cs out).length=out.length
 | [],_=>rfl
 | c::cs,out=>by
   rw[BZ,ER track frm cs]
   split
   ·rw[GC]
   ·rfl
theorem VC {p:Int} {x:Nat} {out:List Nat} (h:GF out):GF (IN p x out):=by
 unfold IN
 split
 ·intro y hy
  rcases mem_or_eq_of_mem_set hy with h' | rfl
  ·exact h y h'
  ·exact CO _ _
 ·exact h
theorem MB:∀ (xs:List Nat) (p:Int) (out:List Nat),GF out→GF (DU p xs out)
 | [],_,_,h=>h
 | x::xs,p,out,h=>MB xs _ _ (VC h)
theorem Ik (track frm:Int):∀ (cs:List Bn) (out:List Nat),GF out→GF (BZ track frm cs out)
 | [],_,h=>h
 | c::cs,out,h=>by
   rw[BZ]
   refine Ik track frm cs _ ?_
   split
   ·exact MB _ _ _ h
   ·exact h
theorem WZ {out:List Nat} {i y:Nat}:AF (AV .f32 out) i [T.flt .f32 y]=AV .f32 (out.set i y):=by rw[Ss];simp[AV,List.map_set]
theorem Nu (n:Nat) (i1 i2:Int) (n4:Nat) (l5:List T) (n6:Nat) (l7:List T) (k:Nat) (i10:Int) (at_:Int) (n12:Nat) (l13:List T) (n14:Nat) (l15:List T) (i16 i17:Int) (hk:k≤100000) (ha : -10000000≤at_∧at_≤10000000) (hf : -10000000≤i2∧i2≤10000000) :
  ∀ (zs p out:List Nat) (m:Nat),out.length=k→p.length+zs.length<1048576→zs.length<m →
  f69.l1 (n+1) m i1 i2 (k:Int) n4 l5 n6 l7 k (AV .f32 out) i10 at_ n12 l13 n14 l15 i16 i17 (p++zs).length (AV .f32 (p++zs)) ((p++zs).length:Int) (p.length:Int) =
   some (i1,i2,(k:Int),n4,l5,n6,l7,k,AV .f32 (DU (at_+(p.length:Int) - i2) zs out),n14,l15,i16,i17):=by
 intro zs
 induction zs with
 | nil =>
   intro p out m ho _ hm
   obtain ⟨m,rfl⟩:=zc m (by simp at hm;omega)
   rw[f69.l1,Gu];rfl
 | cons z zs ih =>
   intro p out m ho hp hm
   obtain ⟨m,rfl⟩:=zc m (by simp at hm;omega)
   have hp':p.length<1048576:=by simp at hp;omega
   have w1:IntKind.i64.wrap (IntKind.i64.wrap (at_+(p.length:Int)) - i2)=at_+(p.length:Int) - i2:=by
    rw[A6 (x:=at_+(p.length:Int)) (by omega) (by omega),A6 (by omega) (by omega)]
   have w2:IntKind.i64.wrap ((k:Int) - 1)=(k:Int) - 1:=by rw[A6] <;>omega
   have w' :=Df (z:=z) (p:=p) (show p.length<4611686018427387904 by omega)
   rw[f69.l1,Gt,FJ,Cz,Cv,Dl]
   simp only[Ac,BJ,zA,w1,w2,QJ,AM,w']
   have hq:at_+((p++[z]).length:Int) - i2=at_+(p.length:Int) - i2+1:=by simp;omega
   rw[DU]
   by_cases hc:0≤at_+(p.length:Int) - i2∧at_+(p.length:Int) - i2≤(k:Int) - 1
   ·obtain ⟨q,hq2⟩:=Int.eq_ofNat_of_zero_le hc.1
    have hqk:q<out.length:=by omega
    have step:=ih (p++[z]) (IN (at_+(p.length:Int) - i2) z out) m (by rw[Hq];exact ho) (by simp at hp ⊢;omega) (by simp at hm;omega)
    rw[hq] at step
    have hadd:IN (at_+(p.length:Int) - i2) z out=out.set q (BD .f32 (out.getD q 0) z):=by
     unfold IN;rw[hq2,if_pos (by omega)];rfl
    rw[hadd] at step ⊢
    rw[decide_eq_true hc,hq2] at *
    have g1:decide ((0:Int)≤(q:Int)∧(q:Int)<(k:Int))=true:=decide_eq_true (by omega)
    have g2:AR [.flt .f32] (AV .f32 out) q=true:=B9 hqk
    have g3:Nat.ble (q+1) (AV .f32 out).length=true:=by rw[TW];exact Qt (by omega)
    simp only[Ac,g1,BJ,zT,g2,g3,Em,WZ]
    simpa using step
   ·have step:=ih (p++[z]) (IN (at_+(p.length:Int) - i2) z out) m (by rw[Hq];exact ho) (by simp at hp ⊢;omega) (by simp at hm;omega)
    have hadd:IN (at_+(p.length:Int) - i2) z out=out:=by unfold IN;rw[if_neg (by omega)]
    rw[hadd,hq] at step
    rw[hadd,decide_eq_false hc,Al]
    simpa using step
theorem Nq (n:Nat) (track frm:Int) (N:Nat) (ts:List T) (M:Nat) (us:List T) (k:Nat) (hk:k≤100000) (hf : -10000000≤frm∧frm≤10000000) (cs:List Bn) (hl:cs.length≤100) (hcl:∀ c∈cs,(0≤c.len∧c.len≤256)∧c.nums.length≤256) (hn:300<n):∀ (j i m:Nat) (out:List Nat),i+j=cs.length→out.length=k→j<m →
  f69.l0 (n+1) m track frm (k:Int) N ts M us k (AV .f32 out) cs.length (AI cs) (cs.length:Int) (i:Int)=some (k,AV .f32 (BZ track frm (cs.drop i) out)):=by
 intro j
 induction j with
 | zero =>
   intro i m out hi ho hm
   obtain ⟨m,rfl⟩:=zc m (by omega)
   rw[f69.l0,Bi (by omega),drop_eq_nil_of_le (by omega)];rfl
 | succ j ih =>
   intro i m out hi ho hm
   obtain ⟨m,rfl⟩:=zc m (by omega)
   have h:i<cs.length:=by omega
   obtain ⟨c1,c2⟩:=hcl _ (I9 h)
   rw[f69.l0,CQ h,BX h,zT,Uw h,E7 h,BZ]
   simp only[Ac,zA,BJ,kE h,gE h,nE h,lE h,AM,Ar (show i<9223372036854775807 by omega)]
   by_cases hc:(A9 cs i).kind=track
   ·have e:=Nu n track frm N ts M us k (A9 cs i).kind (A9 cs i).len (A9 cs i).nums.length (AV .f32 (A9 cs i).nums) cs.length (AI cs) (cs.length:Int) (i:Int) hk (by omega) hf (A9 cs i).nums [] out (n+1) ho (by simp;omega) (by omega)
    have e:f69.l1 (n+1) (n+1) track frm (k:Int) N ts M us k (AV .f32 out) (A9 cs i).kind (A9 cs i).len (A9 cs i).nums.length (AV .f32 (A9 cs i).nums) cs.length (AI cs) (cs.length:Int) (i:Int) (A9 cs i).nums.length (AV .f32 (A9 cs i).nums) ((A9 cs i).nums.length:Int) 0=_:=e
    rw[show ((A9 cs i).kind != track)=false by simp[hc],if_pos hc]
    simp only[Al,e,AM,length_nil,Int.natCast_zero,Int.add_zero,Ar (show i<9223372036854775807 by omega)]
    exact ih (i+1) m _ (by omega) (by rw[GC];exact ho) (by omega)
   ·rw[show ((A9 cs i).kind != track)=true by simp[hc],if_neg hc]
    simp only[Ac]
    exact ih (i+1) m out (by omega) ho (by omega)
theorem VB (n:Nat) (cs:List Bn) (M:Nat) (us:List T) (track frm:Int) (k:Nat) (hk:k≤100000) (hf : -10000000≤frm∧frm≤10000000) (hl:cs.length≤100) (hcl:∀ c∈cs,(0≤c.len∧c.len≤256)∧c.nums.length≤256) (hn:300<n) :
  f69 (n+2) cs.length (AI cs) M us track frm (k:Int)=some (k,AV .f32 (BZ track frm cs (List.replicate k 0))):=by
 have e:=Nq n track frm cs.length (AI cs) M us k hk hf cs hl hcl hn cs.length 0 (n+1) (List.replicate k 0) (by omega) (by simp) (by omega)
 have e:f69.l0 (n+1) (n+1) track frm (k:Int) cs.length (AI cs) M us k (AV .f32 (List.replicate k 0)) cs.length (AI cs) (cs.length:Int) 0=_:=e
 rw[f69,HD n k (by omega)]
 simp only[AM,e,drop_zero]
theorem ZU (n:Nat) {e:Ef} (h:e.Ok):f101 (n+2) e.eff.kind e.eff.len e.eff.nums.length (AV .f32 e.eff.nums)=some (e.keep,AV .f32 (newRow e)):=by
 rw[f101]
 cases e with
 | scale g=>rfl
 | filt a b c d f =>
   have hz:=HD n 2 (by omega)
   simp only[Ef.eff,beq_self_eq_true,Ac,Al]
   show bd (f70 (n+1) ((2:Nat):Int)) _=_
   rw[hz];rfl
 | echo L p q =>
   have hL:1≤L∧L≤32:=h
   have hz:=HD n L (by omega)
   simp only[Ef.eff,show ((2:Int)==1)=false from rfl,beq_self_eq_true,Ac,Al,hz,AM]
   rfl
 | squeeze a b c d =>
   have hz:=HD n 1 (by omega)
   simp only[Ef.eff,show ((3:Int)==1)=false from rfl,show ((3:Int)==2)=false from rfl,beq_self_eq_true,Ac,Al]
   show bd (f70 (n+1) ((1:Nat):Int)) _=_
   rw[hz];rfl
 | clip g=>rfl
 | bend=>rfl
 | lim A k r =>
   have hA:A≤32∧Bj k∧_:=h
   have hz:=HD n A (by omega)
   have hb:Nat.ble (1+A) 2147483648=true:=by rw[Nat.ble_eq];omega
   simp only[Ef.eff,show ((6:Int)==1)=false from rfl,show ((6:Int)==2)=false from rfl,show ((6:Int)==3)=false from rfl,beq_self_eq_true,Ac,Al,hz,AM,hb,BJ]
   rw[Nat.add_comm 1 A]
   rfl
theorem Tm (n:Nat) (N:Nat) (ts:List T) (es:List Ef) (hl:es.length≤100) (hok:∀ e∈es,e.Ok):∀ (j i m:Nat) (P:List (List Nat)),i+j=es.length→P.length≤i→j<m →
  f68.l0 (n+2) m N ts P.length (P.map SM) es.length (AI (C8 es)) (es.length:Int) (i:Int)=some ((P++(es.drop i).map newRow).length,(P++(es.drop i).map newRow).map SM):=by
 intro j
 induction j with
 | zero =>
   intro i m P hi hP hm
   obtain ⟨m,rfl⟩:=zc m (by omega)
   rw[f68.l0,Bi (by omega),drop_eq_nil_of_le (by omega)]
   simp[br]
 | succ j ih =>
   intro i m P hi hP hm
   obtain ⟨m,rfl⟩:=zc m (by omega)
   have h:i<es.length:=by omega
   have he:i<(C8 es).length:=by rw[DI];exact h
   have hE:=hok _ (SK h)
   have hp:=Uz P (newRow (Fg es i))
   rw[JI] at hp
   have step:=ih (i+1) m (P++[newRow (Fg es i)]) (by omega) (by simp;omega) (by omega)
   rw[f68.l0,CQ h,BX h,zT,Uw he,Um h]
   simp only[Ac,zA,BJ,kE he,gE he,nE he,lE he,Ur h,ZU n hE,AM,BA (show P.length<2147483648 by omega),hp,Ar (show i<9223372036854775807 by omega)]
   rw[Bb (z:=newRow (Fg es i)),step]
   simp
theorem TX (n:Nat) (es:List Ef) (hl:es.length≤100) (hok:∀ e∈es,e.Ok) (hn:200<n):f68 (n+3) es.length (AI (C8 es))=some ((es.map newRow).length,(es.map newRow).map SM):=by
 have e:=Tm n es.length (AI (C8 es)) es hl hok es.length 0 (n+2) [] (by omega) (by simp) (by omega)
 have e:f68.l0 (n+2) (n+2) es.length (AI (C8 es)) 0 [] es.length (AI (C8 es)) (es.length:Int) 0=_:=e
 rw[f68,e]
 simp only[AM,drop_zero,nil_append]
def Lz (es:List Ef) (track:Int) (cl:List Bn) (k:Nat):List Nat:=(By es (es.map newRow) (BZ track 0 cl (List.replicate k 0))).1
theorem He (k:Nat):GF (List.replicate k 0):=fun y hy=>by
 obtain ⟨-,rfl⟩:=List.mem_replicate.1 hy;exact Bw
theorem J6 {es:List Ef} (ho:∀ e∈es,e.Ok) (track:Int) (cl:List Bn) (k:Nat):(Lz es track cl k).length=k∧GF (Lz es track cl k):=by
 obtain ⟨h1,-,h3⟩:=Po es (es.map newRow) (BZ track 0 cl (List.replicate k 0)) ho (XR es).fits (Ik _ _ _ _ (He k))
 exact ⟨by unfold Lz;rw[h3,ER,List.length_replicate],h1⟩
structure fE (cl:List Bn) (ss:List BP):Prop where
 n:1≤ss.length∧ss.length≤8
 c:cl.length≤12
 s:∀ s∈ss,Gn s.es=true∧(-2000≤s.tn∧s.tn≤2000)∧H6 s.pan=true
 k:∀ c∈cl,(0≤c.kind∧c.kind≤(ss.length:Int) - 1)∧(0≤c.len∧c.len≤256)∧c.nums.length≤256
theorem Py {cl:List Bn} {ss:List BP} (h:E9 cl ss=true):fE cl ss:=by
 unfold E9 at h
 simp only[zB,decide_eq_true_eq,all_eq_true] at h
 obtain ⟨h1,h2,h3,h4⟩:=h
 refine ⟨h1,h2,fun s hs => ?_,fun c hc => ?_⟩
 ·have:=h3 s hs
  unfold WE at this
  simp only[zB,decide_eq_true_eq] at this
  exact ⟨this.1,this.2.1,this.2.2⟩
 ·have:=h4 c hc
  unfold WF at this
  simp only[zB,decide_eq_true_eq] at this
  exact ⟨this.1,this.2.1,this.2.2⟩
structure iv (cl:List Bn) (ss:List BP):Prop where
 c:∀ c∈cl,Zs c
 s:∀ s∈ss,(∀ e∈s.es,Zs e)∧IX .i64 s.tn∧Bj s.pan
theorem Vf (n:Nat) (hn:1000<n) {cl:List Bn} {ss:List BP} (h:fE cl ss) (i k:Nat) (hi:i<ss.length) (hk:k≤256) (es:List Ef) (he:C8 es=(Bx ss i).es) (ho:∀ e∈es,e.Ok) (hl:es.length≤8) :
  f27 (n+104) cl.length (AI cl) ss.length (AW ss) (i:Int) (k:Int)=some (k,AV .f32 (Lz es (i:Int) cl k)):=by
 have hcl:∀ c∈cl,(0≤c.len∧c.len≤256)∧c.nums.length≤256:=fun c hc=>(h.k c hc).2
 have hc:=h.c
 have e1:=TX (n+100) es (by omega) ho (by omega)
 have e1:f68 (n+103) es.length (AI (C8 es))=_:=e1
 have e2:=VB (n+101) cl ss.length (AW ss) (i:Int) 0 k (by omega) (by omega) (by omega) hcl (by omega)
 have e2:f69 (n+103) cl.length (AI cl) ss.length (AW ss) (i:Int) 0 (k:Int)=_:=e2
 have e3:=SJ n (by omega) es (by omega) ho (es.map newRow) (XR es).fits (BZ (i:Int) 0 cl (List.replicate k 0)) (Ik _ _ _ _ (He k)) (by rw[ER,List.length_replicate];exact hk)
 have hlen:=(J6 ho (i:Int) cl k).1
 rw[ER,List.length_replicate] at e3
 have hle:(Bx ss i).es.length=es.length:=by rw[← he,DI]
 rw[f27,BX hi,zT,Vx hi]
 simp only[zA,BJ,dz hi,ei hi]
 rw[hle,← he]
 simp only[e1,e2,e3,AM]
 rw[show (By es (es.map newRow) (BZ (i:Int) 0 cl (List.replicate k 0))).1=Lz es (i:Int) cl k from rfl,hlen]
theorem JW (n:Nat) {bs:List Int} (hb:Dd bs):∀ (j m:Nat) (a sd:Int) (acc:List Ef),0≤a→a+1000 * (j:Int)≤1125899906830000→acc.length+j≤1000→j<m→(∀ e∈acc,e.Ok) →
  ∃ (es:List Ef) (a' sd':Int),es.length=acc.length+j∧(∀ e∈es,e.Ok)∧(a≤a'∧a'≤a+400 * (j:Int))∧f60.l0 (n+9) m bs.length (its .u8 bs) a sd acc.length (AI (C8 acc)) (j:Int)=some (bs.length,its .u8 bs,a',sd',es.length,AI (C8 es)):=by
 intro j
 induction j with
 | zero =>
   intro m a sd acc _ _ _ hm hw
   obtain ⟨m,rfl⟩:=zc m (by omega)
   rw[f60.l0]
   exact ⟨acc,a,sd,by omega,hw,by omega,rfl⟩
 | succ j ih =>
   intro m a sd acc h0 h1 hl hm hw
   obtain ⟨m,rfl⟩:=zc m (by omega)
   obtain ⟨e,a1,s1,he,ha1,e1⟩:=Wh n hb h0 (by omega) sd
   obtain ⟨es,a',sd',q1,q2,qa,q3⟩:=ih m a1 s1 (acc++[e]) (by omega) (by omega) (by simp;omega) (by omega) (by
    intro x hx
    rcases mem_append.1 hx with h | h
    ·exact hw x h
    ·rw[mem_singleton.1 h];exact he)
   refine ⟨es,a',sd',by simp at q1;omega,q2,by omega,?_⟩
   rw[f60.l0,decide_eq_true (show (((j+1:Nat):Int)>0) by omega),show IntKind.i64.wrap (((j+1:Nat):Int) - 1)=(j:Int) by rw[A6] <;>omega]
   have hp:=HE (C8 acc) e.eff
   have hq:C8 acc++[e.eff]=C8 (acc++[e]):=by simp[C8]
   rw[hq] at hp
   have hl1:(C8 acc).length=acc.length:=DI acc
   unfold Dq at hp
   simp only[Ac,e1,AM,BA (show acc.length<2147483648 by omega),BJ]
   rw[hp,Bb (z:=e)]
   exact q3
theorem Wq (n:Nat) {bs:List Int} (hb:Dd bs) (hn:100<n) {a:Int} (h0:0≤a) (h1:a≤1125899906800000) (sd:Int):∃ (es:List Ef) (a' sd':Int),es.length≤8∧(∀ e∈es,e.Ok)∧(a≤a'∧a'≤a+4000)∧f60 (n+10) bs.length (its .u8 bs) a sd=some (es.length,AI (C8 es),bs.length,its .u8 bs,a',sd'):=by
 obtain ⟨k,a1,s1,hk,ha1,e1⟩:=B8 (n+7) hb (a:=a) (by omega) (by omega) sd 5
 obtain ⟨k,rfl⟩:=Int.eq_ofNat_of_zero_le hk.1
 have hk5:=hk.2.1 (by omega)
 obtain ⟨b,a2,s2,ha2,e2⟩:=F8 (n+6) hb (a:=a1) (by omega) (by omega) s1 24
 obtain ⟨es,a3,s3,q1,q2,qa,q3⟩:=JW n hb k (n+9) a2 s2 [] (by omega) (by omega) (by simp;omega) (by omega) (by simp)
 obtain ⟨fs,a4,s4,r1,r2,ra,r3⟩:=JW n hb 8 (n+9) a2 s2 [] (by omega) (by omega) (by simp) (by omega) (by simp)
 have q3:f60.l0 (n+9) (n+9) bs.length (its .u8 bs) a2 s2 0 (reps 0 [(T.int .i64 (0:Int)),(T.int .i64 (0:Int)),(T.lst 0 [])]) (k:Int)=_:=q3
 have r3:f60.l0 (n+9) (n+9) bs.length (its .u8 bs) a2 s2 0 (reps 0 [(T.int .i64 (0:Int)),(T.int .i64 (0:Int)),(T.lst 0 [])]) 8=_:=r3
 rw[f60,e1]
 cases b
 ·simp only[AM,e2,Al,q3]
  exact ⟨es,a3,s3,by simp at q1;omega,q2,by omega,rfl⟩
 ·simp only[AM,e2,Ac,r3]
  exact ⟨fs,a4,s4,by simp at r1;omega,r2,by omega,rfl⟩
def eA (k:Nat):Nat:=fdiv .f32 (FloatKind.f32.nearest (k:Int)) 1098907648
theorem ZZ:∀ k:Nat,k<17→H6 (eA k)=true:=by decide +kernel
structure ev (s:BP):Prop where
 es:∃ es:List Ef,C8 es=s.es∧(∀ e∈es,e.Ok)∧es.length≤8
 tn : -90≤s.tn∧s.tn≤29
 pan:∃ k:Nat,k<17∧s.pan=eA k
structure gS (N:Nat) (c:Bn):Prop where
 kind:0≤c.kind∧c.kind≤(N:Int) - 1
 len:0≤c.len∧c.len≤11
 few:c.nums.length≤8
 w:GF c.nums
structure Uo (cl:List Bn) (ss:List BP):Prop where
 n:1≤ss.length∧ss.length≤3
 c:cl.length≤4
 s:∀ s∈ss,ev s
 k:∀ c∈cl,gS ss.length c
theorem So (acc:List BP) (s:BP):AW acc++AF (reps 1 [(T.lst 0 []),(T.int .i64 (0:Int)),(T.flt .f32 0),(T.bool false),(T.bool false)]) 0 (TR s)=AW (acc++[s]):=by
 unfold AW
 rw[flatMap_append,flatMap_singleton];rfl
theorem Oq (n:Nat) {bs:List Int} (hb:Dd bs) (hn:100<n) (N5:Nat) (t5:List T) (N7:Nat) (t7:List T) (N9:Nat) (t9:List T):∀ (j m:Nat) (a sd:Int) (acc:List BP),0≤a→a+5000 * (j:Int)≤1125899906790000→acc.length+j≤1000→j<m→(∀ s∈acc,ev s) →
  ∃ (ss:List BP) (a' sd':Int),ss.length=acc.length+j∧(∀ s∈ss,ev s)∧(a≤a'∧a'≤a+5000 * (j:Int))∧f24.l0 (n+10) m bs.length (its .u8 bs) a sd N5 t5 N7 t7 N9 t9 acc.length (AW acc) (j:Int)=some (bs.length,its .u8 bs,a',sd',N5,t5,N7,t7,N9,t9,ss.length,AW ss):=by
 intro j
 induction j with
 | zero =>
   intro m a sd acc _ _ _ hm hw
   obtain ⟨m,rfl⟩:=zc m (by omega)
   rw[f24.l0]
   exact ⟨acc,a,sd,by omega,hw,by omega,rfl⟩
 | succ j ih =>
   intro m a sd acc h0 h1 hl hm hw
   obtain ⟨m,rfl⟩:=zc m (by omega)
   have hj:IntKind.i64.wrap (((j+1:Nat):Int) - 1)=(j:Int):=by rw[A6] <;>omega
   obtain ⟨b1,a1,s1,ha1,e1⟩:=F8 (n+7) hb (a:=a) (by omega) (by omega) sd 6
   obtain ⟨b2,a2,s2,ha2,e2⟩:=F8 (n+7) hb (a:=a1) (by omega) (by omega) s1 8
   obtain ⟨b3,a3,s3,ha3,e3⟩:=F8 (n+7) hb (a:=a2) (by omega) (by omega) s2 2
   obtain ⟨es,a4,s4,q1,q2,ha4,e4⟩:=Wq n hb hn (a:=a3) (by omega) (by omega) s3
   have fin:∀ (es:List Ef) (a5 s5:Int),es.length≤8→(∀ e∈es,e.Ok)→a≤a5→a5≤a+4010→∃ (t p a7 s7 a6 s6:Int) (st:BP),f58 (n+10) bs.length (its .u8 bs) a5 s5 120=some (t,bs.length,its .u8 bs,a6,s6)∧f58 (n+10) bs.length (its .u8 bs) a6 s6 17=some (p,bs.length,its .u8 bs,a7,s7)∧ev st ∧
     st=⟨C8 es,IntKind.i64.wrap (t - 90),fdiv .f32 (FloatKind.f32.nearest p) 1098907648,b1,b2⟩∧(a≤a7∧a7≤a+4100):=by
    intro es a5 s5 q1 q2 l1 l2
    obtain ⟨t,a6,s6,ht,ha6,e6⟩:=B8 (n+8) hb (a:=a5) (by omega) (by omega) s5 120
    obtain ⟨p,a7,s7,hp,ha7,e7⟩:=B8 (n+8) hb (a:=a6) (by omega) (by omega) s6 17
    have ht2:=ht.2.1 (by omega)
    have hp2:=hp.2.1 (by omega)
    obtain ⟨p,rfl⟩:=Int.eq_ofNat_of_zero_le hp.1
    refine ⟨t,p,a7,s7,a6,s6,_,e6,e7,⟨⟨es,rfl,q2,q1⟩,?_,⟨p,by omega,rfl⟩⟩,rfl,by omega⟩
    have:=ht.1
    show -90≤IntKind.i64.wrap (t - 90)∧IntKind.i64.wrap (t - 90)≤29
    rw[A6] <;>omega
   rw[f24.l0,decide_eq_true (show (((j+1:Nat):Int)>0) by omega)]
   simp only[Ac,e1,e2,e3,AM]
   cases b3
   ·obtain ⟨t,p,a7,s7,a6,s6,st,e6,e7,hst,rfl,ha7⟩:=fin [] a3 s3 (by simp) (by simp) (by omega) (by omega)
    have hp:=So acc ⟨C8 [],IntKind.i64.wrap (t - 90),fdiv .f32 (FloatKind.f32.nearest p) 1098907648,b1,b2⟩
    unfold TR at hp
    simp only at hp
    have hp':AW acc++AF (reps 1 [(T.lst 0 []),(T.int .i64 (0:Int)),(T.flt .f32 0),(T.bool false),(T.bool false)]) 0 [(T.lst 0 (reps 0 [(T.int .i64 (0:Int)),(T.int .i64 (0:Int)),(T.lst 0 [])])),(T.int .i64 (IntKind.i64.wrap (t - 90))),(T.flt .f32 (fdiv .f32 (FloatKind.f32.nearest p) 1098907648)),(T.bool b1),(T.bool b2)]=_:=hp
    obtain ⟨ss,a',sd',r1,r2,ra,r3⟩:=ih m a7 s7 (acc++[⟨C8 [],IntKind.i64.wrap (t - 90),fdiv .f32 (FloatKind.f32.nearest p) 1098907648,b1,b2⟩]) (by omega) (by omega) (by simp;omega) (by omega) (by
     intro x hx
     rcases mem_append.1 hx with h | h
     ·exact hw x h
     ·rw[mem_singleton.1 h];exact hst)
    refine ⟨ss,a',sd',by simp at r1;omega,r2,by omega,?_⟩
    simp only[Al,e6,e7,AM,BA (show acc.length<2147483648 by omega),BJ,hj]
    rw[hp',Bb (z:=(⟨C8 [],IntKind.i64.wrap (t - 90),fdiv .f32 (FloatKind.f32.nearest p) 1098907648,b1,b2⟩:BP))]
    exact r3
   ·obtain ⟨t,p,a7,s7,a6,s6,st,e6,e7,hst,rfl,ha7⟩:=fin es a4 s4 q1 q2 (by omega) (by omega)
    have hp:=So acc ⟨C8 es,IntKind.i64.wrap (t - 90),fdiv .f32 (FloatKind.f32.nearest p) 1098907648,b1,b2⟩
    unfold TR at hp
    simp only[DI] at hp
    obtain ⟨ss,a',sd',r1,r2,ra,r3⟩:=ih m a7 s7 (acc++[⟨C8 es,IntKind.i64.wrap (t - 90),fdiv .f32 (FloatKind.f32.nearest p) 1098907648,b1,b2⟩]) (by omega) (by omega) (by simp;omega) (by omega) (by
     intro x hx
     rcases mem_append.1 hx with h | h
     ·exact hw x h
     ·rw[mem_singleton.1 h];exact hst)
    refine ⟨ss,a',sd',by simp at r1;omega,r2,by omega,?_⟩
    simp only[Ac,e4,e6,e7,AM,BA (show acc.length<2147483648 by omega),BJ,hj]
    rw[hp,Bb (z:=(⟨C8 es,IntKind.i64.wrap (t - 90),fdiv .f32 (FloatKind.f32.nearest p) 1098907648,b1,b2⟩:BP))]
    exact r3
theorem Ot (n:Nat) {bs:List Int} (hb:Dd bs) (hn:100<n) (N5:Nat) (t5:List T) (N7:Nat) (t7:List T) (N11:Nat) (hN:1≤N11) (t11:List T):∀ (j m:Nat) (a sd:Int) (acc:List Bn),0≤a→a+300 * (j:Int)≤1125899906790000→acc.length+j≤1000→j<m→(∀ c∈acc,gS N11 c) →
  ∃ (cl:List Bn) (a' sd':Int),cl.length=acc.length+j∧(∀ c∈cl,gS N11 c)∧f24.l1 (n+10) m bs.length (its .u8 bs) a sd N5 t5 N7 t7 acc.length (AI acc) N11 t11 (j:Int)=some (bs.length,its .u8 bs,a',sd',N5,t5,N7,t7,cl.length,AI cl,N11,t11):=by
 intro j
 induction j with
 | zero =>
   intro m a sd acc _ _ _ hm hw
   obtain ⟨m,rfl⟩:=zc m (by omega)
   rw[f24.l1]
   exact ⟨acc,a,sd,by omega,hw,rfl⟩
 | succ j ih =>
   intro m a sd acc h0 h1 hl hm hw
   obtain ⟨m,rfl⟩:=zc m (by omega)
   have hj:IntKind.i64.wrap (((j+1:Nat):Int) - 1)=(j:Int):=by rw[A6] <;>omega
   obtain ⟨t,a1,s1,ht,ha1,e1⟩:=B8 (n+8) hb (a:=a) (by omega) (by omega) sd (N11:Int)
   obtain ⟨u,a2,s2,hu,ha2,e2⟩:=B8 (n+8) hb (a:=a1) (by omega) (by omega) s1 12
   obtain ⟨k,a3,s3,hk,ha3,e3⟩:=B8 (n+8) hb (a:=a2) (by omega) (by omega) s2 9
   obtain ⟨k,rfl⟩:=Int.eq_ofNat_of_zero_le hk.1
   have hk2:=hk.2.1 (by omega)
   have hu2:=hu.2.1 (by omega)
   obtain ⟨ys,a4,s4,hy,hyw,ha4,e4⟩:=Xr (n+4) hb (a:=a3) (by omega) k (by omega) (by omega) (by omega) s3
   have hp:=HE acc ⟨t,u,ys⟩
   unfold Dq at hp
   simp only at hp
   obtain ⟨cl,a',sd',r1,r2,r3⟩:=ih m a4 s4 (acc++[⟨t,u,ys⟩]) (by omega) (by omega) (by simp;omega) (by omega) (by
    intro x hx
    rcases mem_append.1 hx with h | h
    ·exact hw x h
    ·rw[mem_singleton.1 h]
     have h1:=ht.1
     by_cases hN1:1<(N11:Int)
     ·exact ⟨⟨h1,by have:=ht.2.1 hN1;show t≤_;omega⟩,⟨hu.1,by show u≤11;omega⟩,by show ys.length≤8;omega,hyw⟩
     ·have:=ht.2.2 (by omega)
      exact ⟨⟨h1,by show t≤_;omega⟩,⟨hu.1,by show u≤11;omega⟩,by show ys.length≤8;omega,hyw⟩)
   refine ⟨cl,a',sd',by simp at r1;omega,r2,?_⟩
   rw[f24.l1,decide_eq_true (show (((j+1:Nat):Int)>0) by omega)]
   simp only[Ac,e1,e2,e3,e4,AM,BA (show acc.length<2147483648 by omega),BJ,hj]
   rw[hp,Bb (z:=(⟨t,u,ys⟩:Bn))]
   exact r3
theorem YX (n:Nat) {bs:List Int} (hb:Dd bs) (hn:100<n):∃ cl ss,Uo cl ss∧f7 (n+12) bs.length (its .u8 bs)=some (cl.length,AI cl,ss.length,AW ss):=by
 obtain ⟨k,a1,s1,hk,ha1,e1⟩:=B8 (n+8) hb (a:=0) (by omega) (by omega) 0 3
 obtain ⟨k,rfl⟩:=Int.eq_ofNat_of_zero_le hk.1
 have hk2:=hk.2.1 (by omega)
 obtain ⟨ss,a2,s2,q1,q2,qa,q3⟩:=Oq n hb hn 0 [] 0 [] 0 [] (k+1) (n+10) a1 s1 [] (by omega) (by omega) (by simp;omega) (by omega) (by simp)
 have q3:f24.l0 (n+10) (n+10) bs.length (its .u8 bs) a1 s1 0 [] 0 [] 0 (reps 0 [(T.int .i64 (0:Int)),(T.int .i64 (0:Int)),(T.lst 0 [])]) 0 (reps 0 [(T.lst 0 []),(T.int .i64 (0:Int)),(T.flt .f32 0),(T.bool false),(T.bool false)]) ((k+1:Nat):Int)=_:=q3
 obtain ⟨j,a3,s3,hj,ha3,e3⟩:=B8 (n+8) hb (a:=a2) (by omega) (by omega) s2 5
 obtain ⟨j,rfl⟩:=Int.eq_ofNat_of_zero_le hj.1
 have hj2:=hj.2.1 (by omega)
 simp only[length_nil,Nat.zero_add] at q1
 obtain ⟨cl,a4,s4,r1,r2,r3⟩:=Ot n hb hn 0 [] 0 [] ss.length (by omega) (AW ss) j (n+10) a3 s3 [] (by omega) (by omega) (by simp;omega) (by omega) (by simp)
 have r3:f24.l1 (n+10) (n+10) bs.length (its .u8 bs) a3 s3 0 [] 0 [] 0 [] ss.length (AW ss) (j:Int)=_:=r3
 simp only[length_nil,Nat.zero_add] at r1
 refine ⟨cl,ss,⟨by omega,by omega,q2,r2⟩,?_⟩
 rw[f7,bX]
 simp only[AM]
 rw[f24,e1]
 simp only[AM]
 rw[show IntKind.i64.wrap (1+((k:Nat):Int))=((k+1:Nat):Int) by rw[A6] <;>omega,q3]
 simp only[AM,e3,r3]
theorem Tx {cl:List Bn} {ss:List BP} (h:Uo cl ss):E9 cl ss=true:=by
 unfold E9
 simp only[zB,decide_eq_true_eq,all_eq_true]
 refine ⟨⟨h.n.1,by have:=h.n.2;omega⟩,by have:=h.c;omega,fun s hs => ?_,fun c hc => ?_⟩
 ·obtain ⟨⟨es,e1,e2,e3⟩,t,k,hk,hp⟩:=h.s s hs
  unfold WE Gn
  simp only[zB,decide_eq_true_eq,all_eq_true]
  refine ⟨⟨by rw[← e1,DI];exact e3,fun e he => ?_⟩,⟨by omega,by omega⟩,by rw[hp];exact ZZ k hk⟩
  rw[← e1] at he
  obtain ⟨f,hf,rfl⟩:=mem_map.1 he
  have v1:=O0 0 (e2 f hf)
  rw[YK] at v1
  simpa using v1
 ·obtain ⟨a,b,c,d⟩:=h.k c hc
  unfold WF
  simp only[zB,decide_eq_true_eq]
  omega
theorem SO {cl:List Bn} {ss:List BP} (h:Uo cl ss):∀ s∈ss,s.es.length≤100∧∀ e∈s.es,e.nums.length≤1000:=by
 intro s hs
 obtain ⟨⟨es,e1,e2,e3⟩,-,-⟩:=h.s s hs
 refine ⟨by rw[← e1,DI];omega,fun e he => ?_⟩
 rw[← e1] at he
 obtain ⟨f,-,rfl⟩:=mem_map.1 he
 cases f <;>simp[Ef.eff]
def Y4 (x:Nat):Prop:=x=0∨x=2147483648
theorem Ug {x:Nat} (h:Y4 x):Br .f32 x 0:=by
 rcases h with rfl | rfl
 ·exact KS .f32
 ·exact WB
theorem Zg {x:Nat} (hf:CW x=true):∃ B,C0 .f32 B∧B<p2 (F0 .f32)∧fval .f32 x≤B ∧ -B≤fval .f32 x:=by
 obtain ⟨s,m,i,h1,h2,h3,h4⟩:=QD hf
 have hb:mv m i<p2 (F0 .f32):=by
  obtain ⟨a1,a2,a3⟩:=Dg h1
  have q:=(IR (m:=m) (n:=2 ^ 24) (e:=i)).2 (by omega)
  rw[B5] at q
  have q2:=H8 (show i+((24:Nat):Int)≤128 by omega)
  show mv m i<p2 128
  grind
 have:=Aq m i
 refine ⟨mv m i,⟨m,i,h3,h4,rfl⟩,hb,?_,?_⟩
 ·cases s <;>simp only[C5,A4] at h2 <;>grind
 ·cases s <;>simp only[C5,A4] at h2 <;>grind
theorem Zl {l z:Nat} (hl:Bj l) (h0:l≠2147483648) (hz:Y4 z):BD .f32 l z=l∧BD .f32 z l=l:=by
 cases hf:CW l
 ·cases hn:isNaN .f32 l
  ·have h1:=YW hn
   have h2:=hl.1
   unfold CW at hf
   simp only[decide_eq_false_iff_not] at hf
   have:l=2139095040∨l=4286578688:=by omega
   rcases hz with rfl | rfl <;>rcases this with rfl | rfl <;>decide
  ·have:l=EW .f32:=by rw[← hl.2];exact BU hn
   rw[this]
   rcases hz with rfl | rfl <;>decide
 ·have hv:=QD hf
  by_cases hv0:fval .f32 l=0
  ·rw[hv0] at hv
   rcases Oo hl.1 hv with rfl | rfl
   ·rcases hz with rfl | rfl <;>decide
   ·exact absurd rfl h0
  ·obtain ⟨B,b1,b2,b3,b4⟩:=Zg hf
   have e1:fval .f32 l+0=fval .f32 l:=Rat.add_zero _
   have e2:0+fval .f32 l=fval .f32 l:=Rat.zero_add _
   obtain ⟨R,q1,q2⟩:=Kg hv (Ug hz) b1 b2 (by rw[e1];exact b3) (by rw[e1];exact b4)
   obtain ⟨R',r1,r2⟩:=Kg (Ug hz) hv b1 b2 (by rw[e2];exact b3) (by rw[e2];exact b4)
   rw[e1] at q2
   rw[e2] at r2
   exact ⟨GO (Qs _ _ _) hl.1 (q1.near_eq q2 hv.rep) hv hv0,GO (Qs _ _ _) hl.1 (r1.near_eq r2 hv.rep) hv hv0⟩
def cN (x y:Nat):Prop:=x=y∨(Y4 x∧Y4 y)
theorem Zh:FloatKind.f32.format.read 0 = .number false 0 (-149):=by decide
theorem Yg:FloatKind.f32.format.read 2147483648 = .number true 0 (-149):=by decide
theorem cy {x y:Nat} (g:Nat) (hx:Y4 x) (hy:Y4 y):cN (AT .f32 x g) (AT .f32 y g):=by
 have hw:∀ (s:Bool) (e:Int),Y4 (FloatKind.f32.format.write (.number s 0 e)):=by
  intro s e
  show Y4 (FloatKind.f32.format.nearest s 0 e)
  unfold Ieee.Format.nearest
  rw[if_pos rfl]
  cases s
  ·exact .inl (by decide)
  ·exact .inr (by decide)
 have key:∀ z,Y4 z→∃ s,FloatKind.f32.format.read z = .number s 0 (-149):=by
  rintro z (rfl | rfl)
  ·exact ⟨false,Zh⟩
  ·exact ⟨true,Yg⟩
 obtain ⟨s,hs⟩:=key x hx
 obtain ⟨t,ht⟩:=key y hy
 unfold AT Ieee.Format.mul
 rw[hs,ht]
 cases hg:FloatKind.f32.format.read g with
 | nan u v=>exact .inl rfl
 | infinity u=>exact .inl rfl
 | number u n j =>
   right
   simp only[Ieee.Datum.product,Option.map_some,Nat.zero_mul]
   exact ⟨hw _ _,hw _ _⟩
theorem cN.mul {x y:Nat} (h:cN x y) (g:Nat):cN (AT .f32 x g) (AT .f32 y g):=by
 rcases h with rfl | ⟨h1,h2⟩
 ·exact .inl rfl
 ·exact cy g h1 h2
theorem cN.add {x y l:Nat} (h:cN x y) (hl:Bj l) (h0:l≠2147483648):BD .f32 l x=BD .f32 l y:=by
 rcases h with rfl | ⟨h1,h2⟩
 ·rfl
 ·rw[(Zl hl h0 h1).1,(Zl hl h0 h2).1]
structure ML where
 xs:List Nat
 ten:Int
 pan:Nat
 mute:Bool
 solo:Bool
def OI (t:ML):List T:=[.lst t.xs.length (AV .f32 t.xs),.int .i64 t.ten,.flt .f32 t.pan,.bool t.mute,.bool t.solo]
def D8 (ts:List ML):List T:=ts.flatMap OI
def WO (t:ML):Prop:=t.xs.length≤256∧(-2000≤t.ten∧t.ten≤2000)∧H6 t.pan=true
def GN (ts:List ML) (i:Nat):ML:=ts.getD i ⟨[],0,0,false,false⟩
theorem Dk {c:Nat} (hc:c<5):∀ (ts:List ML) (i:Nat),i<ts.length→(D8 ts)[i * 5+c]?=(OI (GN ts i))[c]?
 | [],i,h=>by simp at h
 | t::ts,0,_=>by
   show (OI t++D8 ts)[0 * 5+c]?=_
   rw[List.getElem?_append_left (by simp[OI];omega),Nat.zero_mul,Nat.zero_add];rfl
 | t::ts,i+1,h=>by
   show (OI t++D8 ts)[(i+1) * 5+c]?=_
   rw[List.getElem?_append_right (by simp[OI];omega),show (i+1) * 5+c - (OI t).length=i * 5+c by simp[OI];omega,Dk hc ts i (by simpa using h)]
   rfl
section
variable {ts:List ML} {i:Nat} (h:i<ts.length)
include h
theorem iu:AR [.lst,.int .i64,.flt .f32,.bool,.bool] (D8 ts) (i * 5+0)=true:=by
 have h0:=Dk (c:=0) (by decide) ts i h
 have h1:=Dk (c:=1) (by decide) ts i h
 have h2:=Dk (c:=2) (by decide) ts i h
 have h3:=Dk (c:=3) (by decide) ts i h
 have h4:=Dk (c:=4) (by decide) ts i h
 simp only[OI,List.getElem?_cons_zero,List.getElem?_cons_succ] at h0 h1 h2 h3 h4
 simp[AR,Nat.add_assoc,h1,h2,h3,h4,Ml]
 rw[show i * 5=i * 5+0 from rfl,h0]
theorem nT:HP (D8 ts) (i * 5+0)=(GN ts i).xs.length:=by unfold HP;rw[Dk (c:=0) (by decide) ts i h];rfl
theorem lT:H1 (D8 ts) (i * 5+0)=AV .f32 (GN ts i).xs:=by unfold H1;rw[Dk (c:=0) (by decide) ts i h];rfl
theorem iT:FA (D8 ts) (i * 5+0+1)=(GN ts i).ten:=by unfold FA;rw[show i * 5+0+1=i * 5+1 from rfl,Dk (c:=1) (by decide) ts i h];rfl
theorem fT:CY (D8 ts) (i * 5+0+1+1)=(GN ts i).pan:=by unfold CY;rw[show i * 5+0+1+1=i * 5+2 from rfl,Dk (c:=2) (by decide) ts i h];rfl
theorem bT:KD (D8 ts) (i * 5+0+1+1+1)=(GN ts i).mute:=by unfold KD;rw[show i * 5+0+1+1+1=i * 5+3 from rfl,Dk (c:=3) (by decide) ts i h];rfl
theorem cT:KD (D8 ts) (i * 5+0+1+1+1+1)=(GN ts i).solo:=by unfold KD;rw[show i * 5+0+1+1+1+1=i * 5+4 from rfl,Dk (c:=4) (by decide) ts i h];rfl
theorem QM:ts.drop i=GN ts i::ts.drop (i+1):=by
 rw[drop_eq_getElem_cons h]
 simp[GN,List.getD,h]
theorem Yu:GN ts i∈ts:=by
 have:GN ts i=ts[i]:=by simp[GN,List.getD,h]
 rw[this];exact List.getElem_mem h
end
theorem Xq (acc:List ML) (t:ML):D8 acc++AF (reps 1 [(T.lst 0 []),(T.int .i64 (0:Int)),(T.flt .f32 0),(T.bool false),(T.bool false)]) 0 (OI t)=D8 (acc++[t]):=by
 unfold D8
 rw[flatMap_append,flatMap_singleton];rfl
def I2 (bs:List Bool):List T:=bs.map .bool
theorem S4 (p:List Bool) (b:Bool):I2 p++AF (reps 1 [T.bool false]) 0 [T.bool b]=I2 (p++[b]):=by simp[I2,AF,reps]
theorem Mb {bs:List Bool} {i:Nat}:KD (I2 bs) i=bs.getD i false:=by
 unfold KD I2
 rw[List.getElem?_map]
 cases h:bs[i]? <;>simp[List.getD,h]
theorem Kw {bs:List Bool} {i:Nat} (h:i<bs.length):AR [.bool] (I2 bs) i=true:=by
 unfold I2
 simp[AR,h,Ml]
def hf (a:Bool) (t:ML):Bool:=if t.mute then false else if t.solo then true else !a
theorem Sz (n:Nat) (N:Nat) (cs:List T) (ts:List ML) (hl:ts.length≤100):∀ (j i m:Nat) (P Q:List Bool),i+j=ts.length→P.length≤i→Q.length≤i→j<m →
  f71.l0 n m N cs P.length (I2 P) Q.length (I2 Q) ts.length (D8 ts) (ts.length:Int) (i:Int)=some ((P++(ts.drop i).map (·.mute)).length,I2 (P++(ts.drop i).map (·.mute)),(Q++(ts.drop i).map (·.solo)).length,I2 (Q++(ts.drop i).map (·.solo))):=by
 intro j
 induction j with
 | zero =>
   intro i m P Q hi hP hQ hm
   obtain ⟨m,rfl⟩:=zc m (by omega)
   rw[f71.l0,Bi (by omega),drop_eq_nil_of_le (by omega)]
   simp[br]
 | succ j ih =>
   intro i m P Q hi hP hQ hm
   obtain ⟨m,rfl⟩:=zc m (by omega)
   have h:i<ts.length:=by omega
   rw[f71.l0,CQ h,BX h,zT,iu h]
   simp only[Ac,zA,BJ,bT h,cT h,BA (show P.length<2147483648 by omega),BA (show Q.length<2147483648 by omega),S4,Ar (show i<9223372036854775807 by omega)]
   rw[Bb (z:=(GN ts i).mute),Bb (p:=Q) (z:=(GN ts i).solo),ih (i+1) m _ _ (by omega) (by simp;omega) (by simp;omega) (by omega),QM h]
   simp
theorem Ty (n:Nat) (bs:List Bool) (hl:bs.length≤100):∀ (j i m:Nat),i+j=bs.length→j<m →
  ((bs.drop i).any id=true→∃ k:Nat,f167.l0 n m bs.length (I2 bs) true (bs.length:Int) (i:Int)=some (Sum.inl (k:Int)))∧((bs.drop i).any id=false→f167.l0 n m bs.length (I2 bs) true (bs.length:Int) (i:Int)=some (Sum.inr ())):=by
 intro j
 induction j with
 | zero =>
   intro i m hi hm
   obtain ⟨m,rfl⟩:=zc m (by omega)
   rw[drop_eq_nil_of_le (by omega),f167.l0,Bi (by omega)]
   exact ⟨fun h=>by simp at h,fun _=>rfl⟩
 | succ j ih =>
   intro i m hi hm
   obtain ⟨m,rfl⟩:=zc m (by omega)
   have h:i<bs.length:=by omega
   have hd:bs.drop i=bs.getD i false::bs.drop (i+1):=by
    rw[drop_eq_getElem_cons h];simp[List.getD,h]
   rw[f167.l0,CQ h,BX h,zT,Kw h,Mb,hd,Ar (show i<9223372036854775807 by omega)]
   obtain ⟨i1,i2⟩:=ih (i+1) m (by omega) (by omega)
   cases hb:bs.getD i false
   ·simp only[List.any_cons,id,Bool.false_or]
    exact ⟨fun q=>i1 q,fun q=>i2 q⟩
   ·simp only[List.any_cons,id,Bool.true_or]
    exact ⟨fun _=>⟨i,rfl⟩,fun q=>by cases q⟩
theorem OT (n:Nat) (bs:List Bool) (hl:bs.length≤100) (hn:200<n):f139 (n+2) bs.length (I2 bs) true=some (bs.any id):=by
 obtain ⟨h1,h2⟩:=Ty n bs hl bs.length 0 n (by omega) (by omega)
 rw[drop_zero] at h1 h2
 rw[f139,f167]
 cases h:bs.any id
 ·have e:=h2 h
  have e:f167.l0 n n bs.length (I2 bs) true (bs.length:Int) 0=_:=e
  rw[e];rfl
 ·obtain ⟨k,e⟩:=h1 h
  have e:f167.l0 n n bs.length (I2 bs) true (bs.length:Int) 0=_:=e
  rw[e]
  simp only[AM,iP]
  rw[decide_eq_true (by omega)]
theorem Tk {α:Type} (f:ML→Bool) {ts:List ML} {i:Nat} (h:i<ts.length):(ts.map f).getD i false=f (GN ts i):=by simp[List.getD,GN,h]
theorem Tc (n:Nat) (N:Nat) (a:Bool) (ts:List ML) (hl:ts.length≤100):∀ (j i m:Nat) (P:List Bool),i+j=ts.length→P.length≤i→j<m →
  f102.l0 n m ts.length (I2 (ts.map (·.mute))) ts.length (I2 (ts.map (·.solo))) a P.length (I2 P) ts.length (I2 (ts.map (·.mute))) (ts.length:Int) (i:Int)=some ((P++(ts.drop i).map (hf a)).length,I2 (P++(ts.drop i).map (hf a))):=by
 intro j
 induction j with
 | zero =>
   intro i m P hi hP hm
   obtain ⟨m,rfl⟩:=zc m (by omega)
   rw[f102.l0,Bi (by omega),drop_eq_nil_of_le (by omega)]
   simp[br]
 | succ j ih =>
   intro i m P hi hP hm
   obtain ⟨m,rfl⟩:=zc m (by omega)
   have h:i<ts.length:=by omega
   rw[f102.l0,CQ h,BX h,zT,Kw (show i<(ts.map (·.mute)).length by simpa using h),Kw (show i<(ts.map (·.solo)).length by simpa using h),Mb,Mb,Tk (α:=Unit) (·.mute) h,Tk (α:=Unit) (·.solo) h]
   simp only[Ac,zA,BJ,BA (show P.length<2147483648 by omega),S4,Ar (show i<9223372036854775807 by omega)]
   have key:∀ b,hf a (GN ts i)=b→f102.l0 n m ts.length (I2 (ts.map (·.mute))) ts.length (I2 (ts.map (·.solo))) a (P.length+1) (I2 (P++[b])) ts.length (I2 (ts.map (·.mute))) (ts.length:Int) ((i+1:Nat):Int)=some ((P++(ts.drop i).map (hf a)).length,I2 (P++(ts.drop i).map (hf a))):=by
    intro b hb
    rw[Bb (z:=b),ih (i+1) m _ (by omega) (by simp;omega) (by omega),QM h,map_cons,hb]
    simp
   unfold hf at key
   cases hm':(GN ts i).mute
   ·cases hs:(GN ts i).solo
    ·simp only[Bool.not_false,Ac,Al]
     exact key _ (by simp[hm',hs])
    ·simp only[Bool.not_false,Ac]
     exact key _ (by simp[hm',hs])
   ·simp only[Bool.not_true,Al]
    exact key _ (by simp[hm'])
def Mr (ts:List ML):Bool:=ts.any (·.solo)
theorem O6 (n:Nat) (ts:List ML) (hl:ts.length≤100) (hn:300<n):f71 (n+4) ts.length (D8 ts)=some ((ts.map (hf (Mr ts))).length,I2 (ts.map (hf (Mr ts)))):=by
 have e:=Sz (n+3) ts.length (D8 ts) ts hl ts.length 0 (n+3) [] [] (by omega) (by simp) (by simp) (by omega)
 simp only[drop_zero,nil_append] at e
 have e:f71.l0 (n+3) (n+3) ts.length (D8 ts) 0 [] 0 [] ts.length (D8 ts) (ts.length:Int) 0=_:=e
 have e2:=OT n (ts.map (·.solo)) (by simpa using hl) (by omega)
 have ha:(ts.map (·.solo)).any id=Mr ts:=by unfold Mr;rw[List.any_map];rfl
 rw[ha,length_map] at e2
 have e3:=Tc (n+2) ts.length (Mr ts) ts hl ts.length 0 (n+2) [] (by omega) (by simp) (by omega)
 simp only[drop_zero,nil_append] at e3
 have e3:f102.l0 (n+2) (n+2) ts.length (I2 (ts.map (·.mute))) ts.length (I2 (ts.map (·.solo))) (Mr ts) 0 [] ts.length (I2 (ts.map (·.mute))) (ts.length:Int) 0=_:=e3
 rw[f71,e]
 simp only[AM,length_map]
 rw[f102]
 simp only[e2,AM,e3,length_map]
def ints (ks:List Nat):List Int:=List.map (fun k:Nat=>(k:Int)) ks
def PC (x:Nat):List Nat→Nat→Nat
 | [],a=>a
 | k::ks,a=>PC x ks (BD .f64 4607182418800017408 (fdiv .f64 (AT .f64 x a) k))
def RW:Nat→List Nat→Bool
 | w,[] => !LH .f64 w 4607182418800017408
 | w,k::ks=>(w==k)&&LH .f64 w 4607182418800017408&&RW (BW .f64 w 4607182418800017408) ks
def Ng:Nat→List Nat
 | 0=>[]
 | j+1=>FloatKind.f64.nearest ((j+1:Nat):Int)::Ng j
theorem Zj:RW 4622945017495814144 (Ng 12)=true:=by decide +kernel
theorem SL (n x:Nat):∀ (ks:List Nat) (w a m:Nat),RW w ks=true→ks.length<m→f103.l0 n m x a w=some (PC x ks a)
 | [],w,a,m,h,hm=>by
   obtain ⟨m,rfl⟩:=zc m (by simp at hm;omega)
   unfold RW at h
   rw[f103.l0,show LH .f64 w 4607182418800017408=false by simpa using h];rfl
 | k::ks,w,a,m,h,hm=>by
   obtain ⟨m,rfl⟩:=zc m (by simp at hm;omega)
   unfold RW at h
   simp only[zB,beq_iff_eq] at h
   obtain ⟨⟨rfl,h2⟩,h3⟩:=h
   rw[f103.l0,h2]
   exact SL n x ks _ _ m h3 (by simp at hm;omega)
def gY:Nat→Nat→Nat
 | 0,x=>x
 | j+1,x=>gY j (AT .f64 x x)
theorem Rx (n:Nat):∀ (j i m x:Nat),i+j=8→j<m→f103.l1 n m x (i:Int)=some (gY j x)
 | 0,i,m,x,hi,hm=>by
   obtain ⟨m,rfl⟩:=zc m (by omega)
   rw[f103.l1,decide_eq_false (by omega)];rfl
 | j+1,i,m,x,hi,hm=>by
   obtain ⟨m,rfl⟩:=zc m (by omega)
   rw[f103.l1,decide_eq_true (by omega),Ar (show i<9223372036854775807 by omega)]
   exact Rx n j (i+1) m _ (by omega) (by omega)
theorem Nx (n:Nat) (q:Rat) (h:((2 ^ n:Nat):Rat)=q):p2 (n:Int)=q:=by rw[Jz,h]
theorem Hc (k:FloatKind) (n:Nat) (q:Rat) (h:((2 ^ n:Nat):Rat)=q) (hn:n≤64):C0 k q∧q<p2 (F0 k):=by
 rw[← Nx n q h]
 refine ⟨M5 k ?_,Ja ?_⟩
 ·cases k
  ·show (-149:Int)≤n;omega
  ·show (-1074:Int)≤n;omega
 ·cases k
  ·show (n:Int)<128;omega
  ·show (n:Int)<1024;omega
theorem LE {a b A B:Rat} (ha : -A≤a) (ha':a≤A) (hb : -B≤b) (hb':b≤B) (hA:0≤A) (hB:0≤B):a * b≤A * B ∧ -(A * B)≤a * b:=by
 have h1:=Rat.mul_nonneg (show 0≤A - a by grind) (show 0≤B - b by grind)
 have h2:=Rat.mul_nonneg (show 0≤A+a by grind) (show 0≤B+b by grind)
 have h3:=Rat.mul_nonneg (show 0≤A - a by grind) (show 0≤B+b by grind)
 have h4:=Rat.mul_nonneg (show 0≤A+a by grind) (show 0≤B - b by grind)
 constructor <;>grind
theorem Er {k:FloatKind} {v R B:Rat} (h:KN k v R) (hB:C0 k B) (h1 : -B≤v) (h2:v≤B) : -B≤R∧R≤B:=⟨(h _ hB.neg).2 h1,(h _ hB.rep).1 h2⟩
def Rj (i:Int):Nat:=AT .f64 (FloatKind.f64.nearest i) 4577790371455803420
def cJ (i:Int):Nat:=gY 8 (PC (fdiv .f64 (Rj i) 4643211215818981376) (Ng 12) 4607182418800017408)
def gT (i:Int):Nat:=(Aj .f64 (cJ i) .f32).getD 0
theorem IC (m n:Nat) (q:Rat) (hm:m≤9007199254740992) (hn:n≤60) (h:q * ((2 ^ n:Nat):Rat)=(m:Rat)):C0 .f64 q:=by
 refine ⟨m,-(n:Int),hm,by show (-1074:Int) ≤ -(n:Int);omega,?_⟩
 have h2:p2 (-(n:Int)) * p2 (n:Int)=1:=by
  rw[← Gf,show -(n:Int)+(n:Int)=0 by omega];exact CM
 rw[Jz] at h2
 unfold mv
 rw[← h]
 generalize ((2 ^ n:Nat):Rat)=X at h2
 generalize p2 (-(n:Int))=Y at h2
 grind
theorem PW (q:Rat) (h:q≤18446744073709551616):q<p2 (F0 .f64):=by
 have h1:p2 64=18446744073709551616:=Nx 64 _ (by rfl)
 have h2:p2 64<p2 1024:=Ja (by decide +kernel)
 exact cM (h1 ▸ h) h2
theorem Z1 {Q D b:Rat} (hD:1≤D) (h1 : -b≤Q) (h2:Q≤b) (hb:0≤b) : -b≤Q / D∧Q / D≤b:=by
 have hdiv:Q / D * D=Q:=Rat.div_mul_cancel (by grind)
 constructor
 ·rcases (Rat.le_total : -b≤Q / D∨Q / D ≤ -b) with h | h
  ·exact h
  ·have h3:=Rat.mul_nonneg (show 0 ≤ -b - Q / D by grind) (show 0≤D - 1 by grind)
   have h4:=Rat.mul_nonneg hb (show 0≤D - 1 by grind)
   grind
 ·rcases (Rat.le_total:Q / D≤b∨b≤Q / D) with h | h
  ·exact h
  ·have h3:=Rat.mul_nonneg (show 0≤Q / D - b by grind) (show 0≤D - 1 by grind)
   have h4:=Rat.mul_nonneg hb (show 0≤D - 1 by grind)
   grind
theorem Wk {t p d:Nat} {T P D:Rat} (ht:Br .f64 t T) (hp:Br .f64 p P) (hd:Br .f64 d D) (t0 : -(3 / 32)≤T) (t1:T≤3 / 32) (p0:0≤P) (p1:P≤9 / 8) (d1:1≤D):∃ R,Br .f64 (BD .f64 4607182418800017408 (fdiv .f64 (AT .f64 t p) d)) R∧0≤R∧R≤9 / 8:=by
 have r1:C0 .f64 (27 / 256):=IC 27 8 _ (by decide +kernel) (by decide +kernel) (by decide +kernel)
 have r2:C0 .f64 (9 / 8):=IC 9 3 _ (by decide +kernel) (by decide +kernel) (by decide +kernel)
 obtain ⟨m1,m2⟩:=LE (A:=3 / 32) (B:=9 / 8) t0 t1 (show -(9 / 8)≤P by grind) p1 (by decide +kernel) (by decide +kernel)
 obtain ⟨Q,q1,q2⟩:=Fb ht hp r1 (PW _ (by decide +kernel)) (by grind) (by grind)
 obtain ⟨b1,b2⟩:=Er q2 r1 (by grind) (by grind)
 obtain ⟨c1,c2⟩:=Z1 d1 b1 b2 (by decide +kernel)
 obtain ⟨S,s1,s2⟩:=KI q1 hd (by grind) r1 (PW _ (by decide +kernel)) c2 c1
 obtain ⟨e1,e2⟩:=Er s2 r1 c1 c2
 obtain ⟨R,w1,w2⟩:=Kg Iw s1 r2 (PW _ (by decide +kernel)) (by grind) (by grind)
 exact ⟨R,w1,(w2 0 (XG _)).2 (by grind),(w2 _ r2.rep).1 (by grind)⟩
theorem Us {t:Nat} {T:Rat} (ht:Br .f64 t T) (t0 : -(3 / 32)≤T) (t1:T≤3 / 32):∀ (j p:Nat) (P:Rat),j≤1000→Br .f64 p P→0≤P→P≤9 / 8→∃ R,Br .f64 (PC t (Ng j) p) R∧0≤R∧R≤9 / 8
 | 0,p,P,_,hp,p0,p1=>⟨P,hp,p0,p1⟩
 | j+1,p,P,hj,hp,p0,p1=>by
   have hd:Br .f64 (FloatKind.f64.nearest ((j+1:Nat):Int)) (((j+1:Nat):Int):Rat):=C7 (by show ((j+1:Nat):Int).natAbs≤2 * 4503599627370496;omega)
   have h1:(1:Rat)≤(((j+1:Nat):Int):Rat):=by
    have:(1:Int)≤((j+1:Nat):Int):=by omega
    exact_mod_cast this
   obtain ⟨R,r1,r2,r3⟩:=Wk ht hp hd t0 t1 p0 p1 h1
   exact Us ht t0 t1 j _ R (by omega) r1 r2 r3
theorem IG {x:Nat} {X B C:Rat} (hx:Br .f64 x X) (h0:0≤X) (h1:X≤B) (hC:C0 .f64 C) (hB:B * B≤C) (hT:C≤18446744073709551616):∃ Y,Br .f64 (AT .f64 x x) Y∧0≤Y∧Y≤C:=by
 have m0:=Rat.mul_nonneg h0 h0
 have hB0:0≤B:=by grind
 obtain ⟨m1,m2⟩:=LE (A:=B) (B:=B) (show -B≤X by grind) h1 (show -B≤X by grind) h1 hB0 hB0
 obtain ⟨Y,y1,y2⟩:=Fb hx hx hC (PW _ hT) (by grind) (by grind)
 exact ⟨Y,y1,(y2 0 (XG _)).2 m0,(y2 _ hC.rep).1 (by grind)⟩
theorem Yd {k:Int} (h : -2000≤k∧k≤2000):∃ R,Br .f64 (Rj k) R ∧ -(375 / 16)≤R∧R≤375 / 16:=by
 have hk:Br .f64 (FloatKind.f64.nearest k) (k:Rat):=C7 (by show k.natAbs≤2 * 4503599627370496;omega)
 have k1:(-2000:Rat)≤(k:Rat):=Rat.intCast_le_intCast.2 h.1
 have k2:(k:Rat)≤2000:=Rat.intCast_le_intCast.2 h.2
 have hc:=BI (k:=.f64) (x:=4577790371455803420) (s:=false) (m:=6636749674749980) (e:=-59) (by decide +kernel)
 rw[A4] at hc
 have c0:=Aq 6636749674749980 (-59)
 have c1:mv 6636749674749980 (-59)≤3 / 256:=by
  have h2:mv 6636749674749980 (-59)≤mv (3 * 2 ^ 51) (-59):=Cg.2 (by decide +kernel)
  rw[BT] at h2
  have h3:p2 (-8) * 256=1:=by
   have:p2 (-8) * p2 8=1:=by rw[← Gf];exact CM
   rwa [show p2 8=256 from Nx 8 _ (by rfl)] at this
  have h4:mv 3 (-59+(51:Nat))=3 * p2 (-8):=rfl
  grind
 have r1:C0 .f64 (375 / 16):=IC 375 4 _ (by decide +kernel) (by decide +kernel) (by decide +kernel)
 obtain ⟨m1,m2⟩:=LE (A:=2000) (B:=3 / 256) k1 k2 (show -(3 / 256)≤mv 6636749674749980 (-59) by grind) c1 (by decide +kernel) (by decide +kernel)
 obtain ⟨R,q1,q2⟩:=Fb hk hc r1 (PW _ (by decide +kernel)) (by grind) (by grind)
 obtain ⟨b1,b2⟩:=Er q2 r1 (by grind) (by grind)
 exact ⟨R,q1,b1,b2⟩
theorem IL {n:Int} {w:Nat} {q:Rat} (h:FloatKind.f64.nearest n=w) (hn:n.natAbs≤9007199254740992) (hq:(n:Rat)=q):Br .f64 w q:=by rw[← h,← hq];exact C7 hn
theorem YF {k:Int} (h : -2000≤k∧k≤2000):isNaN .f64 (Rj k)=false∧H2 .f64 (Rj k) 4641240890982006784=false∧flt .f64 (Rj k) 13864612927836782592=false∧∃ y,Aj .f64 (cJ k) .f32=some y:=by
 obtain ⟨A,a1,a2,a3⟩:=Yd h
 have v200:Br .f64 4641240890982006784 200:=IL (n:=200) (by decide +kernel) (by decide +kernel) (by rfl)
 have vm200:Br .f64 13864612927836782592 (-200):=IL (n:=-200) (by decide +kernel) (by decide +kernel) (by rfl)
 have v256:Br .f64 4643211215818981376 256:=IL (n:=256) (by decide +kernel) (by decide +kernel) (by rfl)
 refine ⟨a1.num,?_,?_,?_⟩
 ·rw[Bool.eq_false_iff];intro h;have:=(Uy a1 v200).1 h;grind
 ·rw[Bool.eq_false_iff];intro h;have:=(Ux a1 vm200).1 h;grind
 have r1:C0 .f64 (3 / 32):=IC 3 5 _ (by decide +kernel) (by decide +kernel) (by decide +kernel)
 have hdiv:A / 256 * 256=A:=Rat.div_mul_cancel (by decide +kernel)
 obtain ⟨Tt,t1,t2⟩:=KI a1 v256 (by decide +kernel) r1 (PW _ (by decide +kernel)) (by grind) (by grind)
 obtain ⟨t3,t4⟩:=Er t2 r1 (by grind) (by grind)
 obtain ⟨P,p1,p3,p4⟩:=Us t1 t3 t4 12 _ 1 (by decide +kernel) Iw (by decide +kernel) (by decide +kernel)
 obtain ⟨X1,x1,y1,z1⟩:=IG (B:=9 / 8) (C:=11 / 8) p1 p3 p4 (IC 11 3 _ (by decide +kernel) (by decide +kernel) (by decide +kernel)) (by decide +kernel) (by decide +kernel)
 obtain ⟨X2,x2,y2,z2⟩:=IG (C:=2) x1 y1 z1 (IC 2 0 _ (by decide +kernel) (by decide +kernel) (by decide +kernel)) (by decide +kernel) (by decide +kernel)
 obtain ⟨X3,x3,y3,z3⟩:=IG (C:=4) x2 y2 z2 (IC 4 0 _ (by decide +kernel) (by decide +kernel) (by decide +kernel)) (by decide +kernel) (by decide +kernel)
 obtain ⟨X4,x4,y4,z4⟩:=IG (C:=16) x3 y3 z3 (IC 16 0 _ (by decide +kernel) (by decide +kernel) (by decide +kernel)) (by decide +kernel) (by decide +kernel)
 obtain ⟨X5,x5,y5,z5⟩:=IG (C:=256) x4 y4 z4 (IC 256 0 _ (by decide +kernel) (by decide +kernel) (by decide +kernel)) (by decide +kernel) (by decide +kernel)
 obtain ⟨X6,x6,y6,z6⟩:=IG (C:=65536) x5 y5 z5 (IC 65536 0 _ (by decide +kernel) (by decide +kernel) (by decide +kernel)) (by decide +kernel) (by decide +kernel)
 obtain ⟨X7,x7,y7,z7⟩:=IG (C:=4294967296) x6 y6 z6 (IC 4294967296 0 _ (by decide +kernel) (by decide +kernel) (by decide +kernel)) (by decide +kernel) (by decide +kernel)
 obtain ⟨X8,x8,y8,z8⟩:=IG (C:=18446744073709551616) x7 y7 z7 (Hc .f64 64 _ (by rfl) (by decide +kernel)).1 (by decide +kernel) (by decide +kernel)
 have hE:cJ k=cJ k:=rfl
 refine Jb (k:=.f64) (k' :=.f32) (x:=cJ k) (E:=((64:Nat):Int)) (by decide +kernel) (by decide +kernel) (by decide +kernel) (fun s m e hd => ?_)
 have hv:=(BI hd).inj x8
 rw[Nx 64 18446744073709551616 (by rfl)]
 exact LX (Aq _ _) (by rw[hv];exact z8) (by rw[hv];grind)
theorem Wb (n:Nat) {k:Int} (h : -2000≤k∧k≤2000):f72 (n+30) k=some (gT k,true):=by
 obtain ⟨h0,h1,h2,y,hy⟩:=YF h
 have hM:gT k=y:=by unfold gT;rw[hy];rfl
 have ht:=Rt (n+27) k
 rw[decide_eq_true h] at ht
 have ht:f64 (n+29) k=some true:=ht
 have ha:AT .f64 (FloatKind.f64.nearest k) 4577790371455803420=Rj k:=rfl
 rw[hM,f72,ht]
 simp only[AM,Bool.not_true,Al]
 rw[ha,f103,h1,h2]
 have e:=Rx (n+28) 8 0 (n+28) (PC (fdiv .f64 (Rj k) 4643211215818981376) (Ng 12) 4607182418800017408) (by omega) (by omega)
 have e:f103.l1 (n+28) (n+28) (PC (fdiv .f64 (Rj k) 4643211215818981376) (Ng 12) 4607182418800017408) 0=some (cJ k):=e
 simp only[Al,SL (n+28) _ (Ng 12) 4622945017495814144 4607182418800017408 (n+28) Zj (by show 12<n+28;omega),AM,e,hy]
def Xm (u:Nat):List Nat→Nat→Nat
 | [],p=>p
 | d::ds,p=>Xm u ds (BW .f64 4607182418800017408 (fdiv .f64 (AT .f64 u p) d))
def Zy:Nat→List Nat
 | 0=>[]
 | j+1=>FloatKind.f64.nearest (2 * ((j+1:Nat):Int) * (2 * ((j+1:Nat):Int)+1))::Zy j
def Nb:Nat→List Nat→Bool
 | w,[] => !LH .f64 w 4607182418800017408
 | w,d::ds=>LH .f64 w 4607182418800017408&&(AT .f64 (AT .f64 4611686018427387904 w) (BD .f64 (AT .f64 4611686018427387904 w) 4607182418800017408)==d)&&Nb (BW .f64 w 4607182418800017408) ds
theorem WV:Nb 4620693217682128896 (Zy 8)=true:=by decide +kernel
theorem TK (n:Nat) (b:Bool) (x u:Nat):∀ (ds:List Nat) (w p m:Nat),Nb w ds=true→ds.length<m→f144.l0 n m b x u p w=some (b,x,Xm u ds p)
 | [],w,p,m,h,hm=>by
   obtain ⟨m,rfl⟩:=zc m (by simp at hm;omega)
   unfold Nb at h
   rw[f144.l0,show LH .f64 w 4607182418800017408=false by simpa using h];rfl
 | d::ds,w,p,m,h,hm=>by
   obtain ⟨m,rfl⟩:=zc m (by simp at hm;omega)
   unfold Nb at h
   simp only[zB,beq_iff_eq] at h
   obtain ⟨⟨h1,h2⟩,h3⟩:=h
   rw[f144.l0,h1,h2]
   exact TK n b x u ds _ _ m h3 (by simp at hm;omega)
theorem Tu {x:Nat} {a:Rat} (hx:Br .f64 x a) (h0:0≤a) (h1:a<1):RQ .f64 (BV .zero x) 0=true∧Da .f64 x .i64=some 0:=by
 obtain ⟨n,e,hn,-⟩:=QW (N:=1) hx h0 (by simpa using h1) (by decide)
 have:n=0:=by omega
 subst this
 refine ⟨?_,e⟩
 obtain ⟨s,m,i,e1,-⟩:=hx
 unfold Da at e
 simp only[Ieee.Datum.toInt,e1,Ieee.Datum.integral,KW] at e
 unfold BV
 rw[e1]
 show RQ .f64 (FloatKind.f64.encode (.number s (Ieee.Toward.cut .zero s (m <<< i.toNat) (-i).toNat) 0)) 0=true
 rw[KW]
 generalize (m <<< i.toNat) / 2 ^ (-i).toNat=q at e
 split at e
 ·simp only[zS] at e
  have hq:q=0:=by
   unfold Ieee.signed at e
   cases s <;>simp at e <;>omega
  subst hq
  cases s <;>decide
 ·cases e
theorem Ts:Br .f32 1082130432 4:=by
 have:=C7 (k:=.f32) (n:=4) (by decide)
 rw[show FloatKind.f32.nearest 4=1082130432 by decide] at this
 exact this
theorem Zv:p2 (-2) * 4=1:=by
 have:p2 (-2) * p2 2=1:=by rw[← Gf];exact CM
 rwa [show p2 2=4 by rw[show (2:Int)=((2:Nat):Int) from rfl,Jz];rfl] at this
theorem UX {x:Nat} {v:Rat} (hx:Br .f32 x v) (h0:0≤v) (h1:v≤1):∃ R,Br .f32 (fdiv .f32 x 1082130432) R∧0≤R∧R * 4≤1:=by
 have hp:=Zv
 have hR0:C0 .f32 (p2 (-2)):=M5 .f32 (by decide)
 have htop:p2 (-2)<p2 (F0 .f32):=Ja (by decide)
 have hd:v / 4 * 4=v:=by grind
 obtain ⟨R,q1,q2⟩:=KI hx Ts (by grind) hR0 htop (by grind) (by grind)
 exact ⟨R,q1,(q2 0 (XG _)).2 (by grind),by have:=(q2 _ hR0.rep).1 (by grind);grind⟩
theorem Xt {x:Nat} {v:Rat} (hx:Br .f32 x v) (h0:0≤v) (h1:v≤1):∃ R,Br .f32 (BW .f32 1065353216 x) R∧0≤R∧R≤1:=by
 have hR0:C0 .f32 (p2 0):=M5 .f32 (by decide)
 have htop:p2 0<p2 (F0 .f32):=Ja (by decide)
 have hz:=CM
 obtain ⟨R,q1,q2⟩:=Kb PG hx hR0 htop (by grind) (by grind)
 exact ⟨R,q1,(q2 0 (XG _)).2 (by grind),by have:=(q2 _ hR0.rep).1 (by grind);grind⟩
theorem Y1 {x:Nat} (h:H6 x=true):∃ v,Br .f32 x v∧0≤v∧v≤1:=by
 unfold H6 at h
 simp only[zB] at h
 obtain ⟨h1,h2⟩:=h
 cases hx:FloatKind.f32.decode x with
 | number s m e =>
   have hv:=BI hx
   exact ⟨_,hv,(KP hv (KS _)).1 h1,(Qi hv PG).1 h2⟩
 | infinity s =>
   exfalso
   have e2:FloatKind.f32.format.read 0 = .number false 0 (-149):=by decide
   have e3:FloatKind.f32.format.read 1065353216 = .number false 8388608 (-23):=by decide
   have hx:FloatKind.f32.format.read x = .infinity s:=hx
   cases s
   ·simp[UM,Ieee.Format.order,hx,e3,Ieee.Datum.order] at h2
   ·simp[LH,Ieee.Format.order,hx,e2,Ieee.Datum.order] at h1
 | nan s t =>
   exfalso
   have hx:FloatKind.f32.format.read x = .nan s t:=hx
   simp[UM,Ieee.Format.order,hx,Ieee.Datum.order] at h2
theorem WP:∃ C,Br .f64 4618760256179416344 C∧0≤C∧C≤7:=by
 have h:=BI (k:=.f64) (x:=4618760256179416344) (s:=false) (m:=7074237752028440) (e:=-50) (by decide)
 refine ⟨_,h,Aq _ _,?_⟩
 rw[A4]
 have h2:mv 7074237752028440 (-50)≤mv (7 * 2 ^ 50) (-50):=Cg.2 (by decide)
 rw[BT] at h2
 have h3:mv 7 (-50+(50:Nat))=7:=by
  unfold mv;rw[show (-50+((50:Nat):Int))=0 by decide,CM,Rat.mul_one];rfl
 rw[h3] at h2
 exact h2
theorem Pd:C0 .f64 3:=⟨3,0,by decide,by decide,by unfold mv;rw[CM,Rat.mul_one];rfl⟩
theorem XJ {u p d:Nat} {U P D:Rat} (hu:Br .f64 u U) (hp:Br .f64 p P) (hd:Br .f64 d D) (u0 : -4≤U) (u1:U≤4) (p0 : -4≤P) (p1:P≤4) (d6:6≤D):∃ R,Br .f64 (BW .f64 4607182418800017408 (fdiv .f64 (AT .f64 u p) d)) R ∧ -4≤R∧R≤4:=by
 obtain ⟨r16,t16⟩:=Hc .f64 4 16 (by rfl) (by decide)
 obtain ⟨r4,t4⟩:=Hc .f64 2 4 (by rfl) (by decide)
 obtain ⟨m1,m2⟩:=LE (A:=4) (B:=4) u0 u1 p0 p1 (by decide) (by decide)
 obtain ⟨Q,q1,q2⟩:=Fb hu hp r16 t16 (by grind) (by grind)
 obtain ⟨b1,b2⟩:=Er q2 r16 (by grind) (by grind)
 have hdiv:Q / D * D=Q:=Rat.div_mul_cancel (by grind)
 have t3:(3:Rat)<p2 (F0 .f64):=by
  have:(3:Rat)<4:=by decide
  grind
 have e1:Q / D≤3:=by
  rcases (Rat.le_total:Q / D≤3∨3≤Q / D) with h | h
  ·exact h
  ·have:=Rat.mul_nonneg (show 0≤Q / D - 3 by grind) (show 0≤D - 6 by grind)
   grind
 have e2 : -3≤Q / D:=by
  rcases (Rat.le_total : -3≤Q / D∨Q / D ≤ -3) with h | h
  ·exact h
  ·have:=Rat.mul_nonneg (show 0 ≤ -3 - Q / D by grind) (show 0≤D - 6 by grind)
   grind
 obtain ⟨S,s1,s2⟩:=KI q1 hd (by grind) Pd t3 e1 e2
 obtain ⟨c1,c2⟩:=Er s2 Pd e2 e1
 obtain ⟨R,w1,w2⟩:=Kb Iw s1 r4 t4 (by grind) (by grind)
 obtain ⟨d1,d2⟩:=Er w2 r4 (by grind) (by grind)
 exact ⟨R,w1,d1,d2⟩
theorem UN {u:Nat} {U:Rat} (hu:Br .f64 u U) (u0 : -4≤U) (u1:U≤4):∀ (ds:List Nat) (p:Nat) (P:Rat),(∀ d∈ds,∃ D,Br .f64 d D∧6≤D)→Br .f64 p P → -4≤P→P≤4→∃ R,Br .f64 (Xm u ds p) R ∧ -4≤R∧R≤4
 | [],p,P,_,hp,p0,p1=>⟨P,hp,p0,p1⟩
 | d::ds,p,P,hd,hp,p0,p1=>by
   obtain ⟨D,d1,d2⟩:=hd d (by simp)
   obtain ⟨R,r1,r2,r3⟩:=XJ hu hp d1 u0 u1 p0 p1 d2
   exact UN hu u0 u1 ds _ R (fun d h=>hd d (by simp[h])) r1 r2 r3
theorem Yn:∀ d∈Zy 8,∃ D,Br .f64 d D∧6≤D:=by
 intro d hd
 have e:Zy 8=([272,210,156,110,72,42,20,6]:List Int).map fun k=>FloatKind.f64.nearest k:=rfl
 rw[e] at hd
 obtain ⟨k,hk,rfl⟩:=mem_map.1 hd
 have hk:6≤k∧k≤272:=by
  simp only[mem_cons,not_mem_nil,or_false] at hk
  omega
 refine ⟨(k:Rat),C7 (by show k.natAbs≤2 * 4503599627370496;omega),?_⟩
 exact_mod_cast hk.1
def O5 (a:Nat):Nat:=AT .f64 (BW .f64 (B7 a) 0) 4618760256179416344
def Wa (a:Nat):Nat:=(Aj .f64 (AT .f64 (O5 a) (Xm (AT .f64 (O5 a) (O5 a)) (Zy 8) 4607182418800017408)) .f32).getD 0
theorem ZX (n x:Nat):f178 (n+2) x=some (BV .zero x):=by rw[f178];rfl
theorem SW (n:Nat) {a:Nat} {R:Rat} (ha:Br .f32 a R) (h0:0≤R) (h1:R * 4≤1):f104 (n+30) a=some (Wa a):=by
 have hw:=RR ha
 have hz:=KS .f64
 have hnan:isNaN .f32 a=false:=ha.num
 obtain ⟨r1,t1⟩:=Hc .f64 0 1 (by rfl) (by decide)
 obtain ⟨r2,t2⟩:=Hc .f64 1 2 (by rfl) (by decide)
 obtain ⟨r4,t4⟩:=Hc .f64 2 4 (by rfl) (by decide)
 obtain ⟨r8,t8⟩:=Hc .f64 3 8 (by rfl) (by decide)
 obtain ⟨F,f1,f2⟩:=Kb hw hz r1 t1 (by grind) (by grind)
 have hF:=f1.near_eq f2 (by rw[show R - 0=R by grind];exact hw.rep)
 rw[show R - 0=R by grind] at hF
 obtain ⟨G,g1,g2⟩:=Kb hw hw r1 t1 (by grind) (by grind)
 have hG:=g1.near_eq g2 (by rw[show R - R=0 by grind];exact XG _)
 rw[show R - R=0 by grind] at hG
 have hfin:RQ .f64 (BW .f64 (B7 a) (B7 a)) 0=true:=(Yh hG hz).2 rfl
 obtain ⟨tz,ti⟩:=Tu hw h0 (by grind)
 have hhalf:Br .f64 4602678819172646912 (p2 (-1)):=by
  have:=BI (k:=.f64) (x:=4602678819172646912) (s:=false) (m:=4503599627370496) (e:=-53) (by decide)
  rw[A4,show (4503599627370496:Nat)=2 ^ 52 from rfl,B5] at this
  exact this
 have hquart:Br .f64 4598175219545276416 (p2 (-2)):=by
  have:=BI (k:=.f64) (x:=4598175219545276416) (s:=false) (m:=4503599627370496) (e:=-54) (by decide)
  rw[A4,show (4503599627370496:Nat)=2 ^ 52 from rfl,B5] at this
  exact this
 have hp1:p2 (-1) * 2=1:=by
  have:p2 (-1) * p2 1=1:=by rw[← Gf];exact CM
  rwa [aV] at this
 have hp2:=Zv
 have c1:flt .f64 (BW .f64 (B7 a) 0) 0=false:=by
  rw[Bool.eq_false_iff];intro h;have:=(Ux hF hz).1 h;grind
 have c2:LH .f64 (BW .f64 (B7 a) 0) 4602678819172646912=false:=by
  rw[Bool.eq_false_iff];intro h;have:=(KP hF hhalf).1 h;grind
 have c3:H2 .f64 (BW .f64 (B7 a) 0) 4598175219545276416=false:=by
  rw[Bool.eq_false_iff];intro h;have:=(Uy hF hquart).1 h;grind
 have hbig:Br .f64 4841369599423283200 (p2 52):=by
  have:=BI (k:=.f64) (x:=4841369599423283200) (s:=false) (m:=4503599627370496) (e:=0) (by decide)
  rw[A4,show (4503599627370496:Nat)=2 ^ 52 from rfl,B5] at this
  exact this
 have hlow:Br .f64 14064741636278059008 (-p2 52):=by
  have:=BI (k:=.f64) (x:=14064741636278059008) (s:=true) (m:=4503599627370496) (e:=0) (by decide)
  rw[C5,show (4503599627370496:Nat)=2 ^ 52 from rfl,B5] at this
  exact this
 have hone:1≤p2 52:=Pb 52
 have c4:LH .f64 (B7 a) 4841369599423283200=false:=by
  rw[Bool.eq_false_iff];intro h;have:=(KP hw hbig).1 h;grind
 have c5:UM .f64 (B7 a) 14064741636278059008=false:=by
  rw[Bool.eq_false_iff];intro h;have:=(Qi hw hlow).1 h;grind
 obtain ⟨w1,w2,w3⟩:=Ip hnan
 have hab:Oe (n+28) (B7 a)=some (B7 (a % 2147483648)):=by
  unfold Oe Me
  simp only[w2,w3,w1]
  rfl
 have c6:LH .f64 (B7 (a % 2147483648)) 4841369599423283200=false:=by
  obtain ⟨s,m,e,e1,e2,-⟩:=ha
  have hv:=RR (BI (Gd.1 s m e e1))
  rw[A4] at hv
  have:mv m e * 4≤1:=by
   cases s
   ·rw[A4] at e2;grind
   ·rw[C5] at e2;grind
  rw[Bool.eq_false_iff];intro h;have:=(KP hv hbig).1 h;grind
 have hsine:f170 (n+28) (B7 a)=some (BW .f64 (B7 a) 0):=by
  rw[f170,ZX]
  simp only[AM,tz,Ac,c1,Al]
 obtain ⟨C,k1,k2,k3⟩:=WP
 have hm0:=Rat.mul_nonneg h0 k2
 have hm1:=Rat.mul_nonneg (show 0≤1 - R * 4 by grind) k2
 have hm2:(1 - R * 4) * C=C - R * C * 4:=by grind
 rw[hm2] at hm1
 obtain ⟨Z,z1,z2⟩:=Fb hF k1 r2 t2 (by grind) (by grind)
 obtain ⟨z3,z4⟩:=Er z2 r2 (by grind) (by grind)
 obtain ⟨m1,m2⟩:=LE (A:=2) (B:=2) z3 z4 z3 z4 (by decide) (by decide)
 obtain ⟨U,u1,u2⟩:=Fb z1 z1 r4 t4 (by grind) (by grind)
 obtain ⟨u3,u4⟩:=Er u2 r4 (by grind) (by grind)
 obtain ⟨P,p1,p3,p4⟩:=UN u1 u3 u4 (Zy 8) _ _ Yn Iw (by decide) (by decide)
 obtain ⟨n1,n2⟩:=LE (A:=2) (B:=4) z3 z4 p3 p4 (by decide) (by decide)
 obtain ⟨Y,y1,y2⟩:=Fb z1 p1 r8 t8 (by grind) (by grind)
 obtain ⟨y3,y4⟩:=Er y2 r8 (by grind) (by grind)
 obtain ⟨y,hy⟩:=Jb (k:=.f64) (k' :=.f32) (x:=AT .f64 (O5 a) (Xm (AT .f64 (O5 a) (O5 a)) (Zy 8) 4607182418800017408)) (E:=((3:Nat):Int)) (by decide) (by decide) (by decide) (by
  intro s m e hd
  have hv:=(BI hd).inj y1
  rw[Nx 3 8 (by rfl)]
  exact LX (Aq _ _) (by rw[hv];exact y4) (by rw[hv];exact y3))
 have hM:Wa a=y:=by unfold Wa;rw[hy];rfl
 have l1:=TK (n+28) false (O5 a) (AT .f64 (O5 a) (O5 a)) (Zy 8) 4620693217682128896 4607182418800017408 (n+28) WV (by show 8<n+28;omega)
 have hz0:FloatKind.f64.nearest 0=0:=by decide
 have hne:Uj .f64 (BW .f64 (B7 a) (B7 a)) 0=false:=by rw[Q1,hfin];rfl
 rw[hM]
 unfold O5 at l1 hy
 rw[f104,CP]
 simp only[AM]
 rw[f141,f143,f144,hfin,hab,hsine]
 simp only[AM,Bool.not_true,Al,c6,c2,c3,l1,hy]
def Wp (x:Nat):Nat:=Wa (fdiv .f32 (BW .f32 1065353216 x) 1082130432)
def WM (x:Nat):Nat:=Wa (fdiv .f32 x 1082130432)
theorem Yz (n:Nat) {x:Nat} (h:H6 x=true):f73 (n+31) x=some (Wp x,WM x,true):=by
 obtain ⟨v,v1,v2,v3⟩:=Y1 h
 obtain ⟨A,a1,a2,a3⟩:=Xt v1 v2 v3
 obtain ⟨B,b1,b2,b3⟩:=UX a1 a2 a3
 obtain ⟨C,c1,c2,c3⟩:=UX v1 v2 v3
 have x1:=SW n b1 b2 b3
 have x2:=SW n c1 c2 c3
 have hp:=W9 (n+29) x
 rw[h] at hp
 have hp:f65 (n+30) x=some true:=hp
 rw[f73,hp]
 simp only[AM,Bool.not_true,Al,x1,x2]
 rfl
def Ry (g p:Nat) (xs:List Nat):Nat→Nat→List Nat→List Nat
 | 0,_,L=>L
 | j+1,i,L=>Ry g p xs j (i+1) (L.set i (BD .f32 (L.getD i 0) (AT .f32 (AT .f32 (xs.getD i 0) g) p)))
theorem IH (g p:Nat) (xs:List Nat):∀ (j i:Nat) (L:List Nat),(Ry g p xs j i L).length=L.length
 | 0,_,_=>rfl
 | j+1,i,L=>by
   show (Ry g p xs j (i+1) _).length=_
   rw[IH g p xs j (i+1),length_set]
theorem OF (g p:Nat) (xs:List Nat):∀ (j i:Nat) (L:List Nat),(∀ x∈L,Bj x)→∀ x∈Ry g p xs j i L,Bj x
 | 0,_,_,h=>h
 | j+1,i,L,h=>OF g p xs j (i+1) _ (by
   intro x hx
   rcases mem_or_eq_of_mem_set hx with h' | rfl
   ·exact h x h'
   ·exact CO _ _)
theorem U0 {k:FloatKind} {L:List Nat} {i:Nat} (h:i<L.length):Nat.ble (i+1) (AV k L).length=true:=by
 rw[Nat.ble_eq];simp[AV];omega
theorem ZO {xs:List Nat} {i k:Nat} (h:i<k):(xs.take k).getD i 0=xs.getD i 0:=by
 simp[List.getD,List.getElem?_take,h]
theorem VP (n n1:Nat) (l2:List T) (N n8:Nat) (l9:List T) (g p q n13:Nat) (l14:List T) (i15 i16:Int) (xs:List Nat) (k:Nat) (hk:k≤xs.length) (hkN:k≤N) (hN:N≤1000):∀ (j i m:Nat) (L R:List Nat),i+j=k→L.length=N→R.length=N→j<m →
  f28.l1 n m n1 l2 (N:Int) N (AV .f32 L) N (AV .f32 R) n8 l9 g p q n13 l14 i15 i16 k (AV .f32 (xs.take k)) (k:Int) (i:Int)=some (n1,l2,(N:Int),N,AV .f32 (Ry g p xs j i L),N,AV .f32 (Ry g q xs j i R),n8,l9,n13,l14,i15,i16):=by
 intro j
 induction j with
 | zero =>
   intro i m L R hi hL hR hm
   obtain ⟨m,rfl⟩:=zc m (by omega)
   rw[f28.l1,Bi (by omega)];rfl
 | succ j ih =>
   intro i m L R hi hL hR hm
   obtain ⟨m,rfl⟩:=zc m (by omega)
   have hik:i<k:=by omega
   have ht:i<(xs.take k).length:=by rw[length_take];omega
   rw[f28.l1,CQ hik,BX hik,BX (show i<N by omega),zT,B9 ht,B9 (show i<L.length by omega),B9 (show i<R.length by omega),U0 (show i<L.length by omega),U0 (show i<R.length by omega),Ar (show i<9223372036854775807 by omega)]
   simp only[Ac,zA,BJ,Em,ZO hik,XX]
   exact ih (i+1) m _ _ (by omega) (by rw[length_set];exact hL) (by rw[length_set];exact hR) (by omega)
def No (N:Nat) (s:List Nat × List Nat) (t:ML):List Nat × List Nat:=(Ry (gT t.ten) (Wp t.pan) t.xs (min t.xs.length N) 0 s.1,Ry (gT t.ten) (WM t.pan) t.xs (min t.xs.length N) 0 s.2)
theorem GP {N:Nat} {s:List Nat × List Nat} {t:ML}:(No N s t).1.length=s.1.length∧(No N s t).2.length=s.2.length:=⟨IH ..,IH ..⟩
theorem Ia (N:Nat):∀ (ts:List ML) (s:List Nat × List Nat),(∀ x∈s.1,Bj x)→(∀ x∈s.2,Bj x)→(ts.foldl (No N) s).1.length=s.1.length∧(ts.foldl (No N) s).2.length=s.2.length∧(∀ x∈(ts.foldl (No N) s).1,Bj x)∧(∀ x∈(ts.foldl (No N) s).2,Bj x)
 | [],s,h1,h2=>⟨rfl,rfl,h1,h2⟩
 | t::ts,s,h1,h2=>by
   obtain ⟨a,b,c,d⟩:=Ia N ts (No N s t) (OF _ _ _ _ _ _ h1) (OF _ _ _ _ _ _ h2)
   exact ⟨a.trans GP.1,b.trans GP.2,c,d⟩
theorem SF (n n1:Nat) (l2:List T) (N:Nat) (hN:N≤1000) (a:Bool) (ts:List ML) (hl:ts.length≤100) (ht:∀ t∈ts,WO t) (hn:1000<n):∀ (j i m:Nat) (s:List Nat × List Nat),i+j=ts.length→s.1.length=N→s.2.length=N→j<m →
  f28.l0 (n+40) m n1 l2 (N:Int) N (AV .f32 s.1) N (AV .f32 s.2) ts.length (I2 (ts.map (hf a))) ts.length (D8 ts) (ts.length:Int) (i:Int)=some (N,AV .f32 (((ts.drop i).filter (hf a)).foldl (No N) s).1,N,AV .f32 (((ts.drop i).filter (hf a)).foldl (No N) s).2):=by
 intro j
 induction j with
 | zero =>
   intro i m s hi h1 h2 hm
   obtain ⟨m,rfl⟩:=zc m (by omega)
   rw[f28.l0,Bi (by omega),drop_eq_nil_of_le (by omega)];rfl
 | succ j ih =>
   intro i m s hi h1 h2 hm
   obtain ⟨m,rfl⟩:=zc m (by omega)
   have h:i<ts.length:=by omega
   obtain ⟨t1,t2,t3⟩:=ht _ (Yu h)
   have g1:f72 (n+40) (GN ts i).ten=some (gT (GN ts i).ten,true):=Wb (n+10) t2
   have g2:f73 (n+40) (GN ts i).pan=some (Wp (GN ts i).pan,WM (GN ts i).pan,true):=Yz (n+9) t3
   rw[f28.l0,CQ h,BX h,zT,iu h,Kw (show i<(ts.map (hf a)).length by simpa using h),Mb,Tk (α:=Unit) (hf a) h,QM h,Ar (show i<9223372036854775807 by omega)]
   simp only[Ac,zA,BJ]
   cases hb:hf a (GN ts i)
   ·rw[List.filter_cons_of_neg (by rw[hb];decide)]
    simp only[Bool.not_false,Ac]
    exact ih (i+1) m s (by omega) h1 h2 (by omega)
   ·rw[List.filter_cons_of_pos hb,foldl_cons]
    have hmin:(if (((GN ts i).xs.length:Nat):Int)<(N:Int) then (((GN ts i).xs.length:Nat):Int) else (N:Int))=((min (GN ts i).xs.length N:Nat):Int):=by
     split <;>omega
    have hin:decide ((0:Int)≤0∧((0:Int)≤((min (GN ts i).xs.length N:Nat):Int))∧(((min (GN ts i).xs.length N:Nat):Int)≤(((GN ts i).xs.length:Nat):Int)))=true:=decide_eq_true (by omega)
    have e:=VP (n+40) n1 l2 N ts.length (I2 (ts.map (hf a))) (gT (GN ts i).ten) (Wp (GN ts i).pan) (WM (GN ts i).pan) ts.length (D8 ts) (ts.length:Int) (i:Int) (GN ts i).xs (min (GN ts i).xs.length N) (Nat.min_le_left _ _) (Nat.min_le_right _ _) hN (min (GN ts i).xs.length N) 0 (n+40) s.1 s.2 (by omega) h1 h2 (by omega)
    have e:f28.l1 (n+40) (n+40) n1 l2 (N:Int) N (AV .f32 s.1) N (AV .f32 s.2) ts.length (I2 (ts.map (hf a))) (gT (GN ts i).ten) (Wp (GN ts i).pan) (WM (GN ts i).pan) ts.length (D8 ts) (ts.length:Int) (i:Int) (min (GN ts i).xs.length N) (AV .f32 ((GN ts i).xs.take (min (GN ts i).xs.length N))) ((min (GN ts i).xs.length N:Nat):Int) 0=_:=e
    simp only[Bool.not_true,Al,nT h,lT h,iT h,fT h,g1,AM,g2,Qg (n+39),hmin,hin,BJ,zT,Nat.sub_zero,drop_zero,Gv,e,Ar (show i<9223372036854775807 by omega)]
    exact ih (i+1) m (No N s (GN ts i)) (by omega) (GP.1.trans h1) (GP.2.trans h2) (by omega)
def Zk (N:Nat):List Nat × List Nat:=(List.replicate N 0,List.replicate N 0)
def MN (N:Nat) (ts:List ML):List Nat × List Nat:=(ts.filter (hf (Mr ts))).foldl (No N) (Zk N)
theorem Si (N:Nat) (ts:List ML):(MN N ts).1.length=N∧(MN N ts).2.length=N:=by
 have hw:∀ x∈List.replicate N 0,Bj x:=He N
 obtain ⟨a,b,-⟩:=Ia N (ts.filter (hf (Mr ts))) (Zk N) hw hw
 exact ⟨a.trans (by simp[Zk]),b.trans (by simp[Zk])⟩
theorem ZC (n N:Nat) (hN:N≤1000) (ts:List ML) (hl:ts.length≤100) (ht:∀ t∈ts,WO t) (hn:1000<n) :
  f28 (n+42) ts.length (D8 ts) (N:Int)=some (N,AV .f32 (MN N ts).1,N,AV .f32 (MN N ts).2):=by
 have e:=SF (n+1) ts.length (D8 ts) N hN (Mr ts) ts hl ht (by omega) ts.length 0 (n+41) (Zk N) (by omega) (by simp[Zk]) (by simp[Zk]) (by omega)
 rw[drop_zero] at e
 have e:f28.l0 (n+41) (n+41) ts.length (D8 ts) (N:Int) N (AV .f32 (List.replicate N 0)) N (AV .f32 (List.replicate N 0)) ts.length (I2 (ts.map (hf (Mr ts)))) ts.length (D8 ts) (ts.length:Int) 0=some (N,AV .f32 (MN N ts).1,N,AV .f32 (MN N ts).2):=e
 have z:=HD (n+40) N (by omega)
 have z:f70 (n+41) (N:Int)=_:=z
 have hh:=O6 (n+37) ts hl (by omega)
 have hh:f71 (n+41) ts.length (D8 ts)=_:=hh
 rw[f28]
 simp only[AM,z,hh,length_map,e]
def V1 (E:Nat→List Ef) (cl:List Bn) (ss:List BP) (k i:Nat):ML:=⟨Lz (E i) (i:Int) cl k,(Bx ss i).tn,(Bx ss i).pan,(Bx ss i).mute,(Bx ss i).solo⟩
def CV (E:Nat→List Ef) (cl:List Bn) (ss:List BP) (k i:Nat):List ML:=(List.range i).map (V1 E cl ss k)
theorem Fm (E:Nat→List Ef) (cl:List Bn) (ss:List BP) (k i:Nat):(CV E cl ss k i).length=i:=by simp[CV]
theorem T4 (E:Nat→List Ef) (cl:List Bn) (ss:List BP) (k i:Nat):CV E cl ss k (i+1)=CV E cl ss k i++[V1 E cl ss k i]:=by simp[CV,List.range_succ]
def UW (E:Nat→List Ef) (ss:List BP):Prop:=∀ i,i<ss.length→C8 (E i)=(Bx ss i).es∧(∀ e∈E i,e.Ok)∧(E i).length≤8
theorem OY (n:Nat) (hn:1200<n) (cl:List Bn) (ss:List BP) (h:fE cl ss) (E:Nat→List Ef) (hE:UW E ss) (k:Nat) (hk:k≤256) (hl:ss.length≤8):∀ (j i m:Nat),i+j=ss.length→j<m →
  f9.l0 (n+150) m (k:Int) cl.length (AI cl) ss.length (AW ss) (CV E cl ss k i).length (D8 (CV E cl ss k i)) ss.length (AW ss) (ss.length:Int) (i:Int)=some ((k:Int),ss.length,D8 (CV E cl ss k ss.length)):=by
 intro j
 induction j with
 | zero =>
   intro i m hi hm
   obtain ⟨m,rfl⟩:=zc m (by omega)
   obtain rfl:i=ss.length:=by omega
   rw[f9.l0,Bi (by omega),Fm];rfl
 | succ j ih =>
   intro i m hi hm
   obtain ⟨m,rfl⟩:=zc m (by omega)
   have hs:i<ss.length:=by omega
   obtain ⟨e1,e2,e3⟩:=hE i hs
   have g:=Vf (n+46) (by omega) h i k hs hk (E i) e1 e2 e3
   have g:f27 (n+150) cl.length (AI cl) ss.length (AW ss) (i:Int) (k:Int)=_:=g
   have f1:=(J6 e2 (i:Int) cl k).1
   have hp:=Xq (CV E cl ss k i) (V1 E cl ss k i)
   have hpl:=Bb (p:=CV E cl ss k i) (z:=V1 E cl ss k i)
   rw[← T4] at hp hpl
   have hrow:∀ (a b c d e:T),AF (AF (AF (AF (AF [(T.lst 0 []),(T.int .i64 (0:Int)),(T.flt .f32 0),(T.bool false),(T.bool false)] 0 [a]) 1 [b]) 2 [c]) 3 [d]) 4 [e]=[a,b,c,d,e]:=fun _ _ _ _ _=>rfl
   rw[f9.l0,CQ hs,BX hs,zT,Vx hs]
   unfold OI at hp
   unfold V1 at hp
   rw[f1] at hp
   simp only[Ac,zA,BJ,d7 hs,eT hs,fA hs,fD hs,g,AM,f1,BA (show (CV E cl ss k i).length<2147483648 by rw[Fm];omega),hrow]
   rw[hp,hpl,Ar (show i<9223372036854775807 by omega)]
   exact ih (i+1) m (by omega) (by omega)
theorem X0 {cl:List Bn} {ss:List BP} (h:fE cl ss) {E:Nat→List Ef} (hE:UW E ss) {k:Nat} (hk:k≤256):∀ t∈CV E cl ss k ss.length,WO t:=by
 intro t ht
 unfold CV at ht
 obtain ⟨i,hi,rfl⟩:=mem_map.1 ht
 have hi:=List.mem_range.1 hi
 obtain ⟨e1,e2,e3⟩:=hE i hi
 have f1:=(J6 e2 (i:Int) cl k).1
 obtain ⟨-,s1,s2⟩:=h.s _ (IF hi)
 exact ⟨by show (Lz (E i) (i:Int) cl k).length≤256;omega,s1,s2⟩
theorem SI (e:Bn):(Dq e).length=3:=rfl
theorem L8 (ts:List Bn):(AI ts).length=3 * ts.length:=by
 unfold AI
 induction ts with
 | nil=>rfl
 | cons t ts ih=>rw[flatMap_cons,List.length_append,ih,SI,length_cons];omega
def gC:List Bn→Nat
 | []=>0
 | e::es=>1+e.nums.length+gC es
def bG:List BP→Nat
 | []=>0
 | s::ss=>1+gC s.es+bG ss
structure jO (cl:List Bn) (ss:List BP):Prop where
 c:gC cl≤1048576
 s:bG ss≤1048576
structure jM (cl:List Bn) (ss:List BP):Prop where
 c:cl.length≤9223372036854775807
 cn:∀ e∈cl,e.nums.length≤9223372036854775807
 s:ss.length≤9223372036854775807
 se:∀ s∈ss,s.es.length≤9223372036854775807∧∀ e∈s.es,e.nums.length≤9223372036854775807
section
variable {E:Av} {tE tI tF tFs tEs tSt tCs tSs tS tC tB o1 o2 o3 o4 o5:Nat} {dE dI dF dFs dEs dSt dCs dSs dS dC dB:TD}
end
theorem LN (n:Nat) (N:Nat) (ts:List T) (cs:List Bn) (hl:cs.length≤100) (hx:∀ e∈cs,e.nums.length≤1000):∀ (j i m:Nat) (P:List Bn),i+j=cs.length→P.length≤i→j<m →
  f75.l0 (n+1) m N ts P.length (AI P) cs.length (AI cs) (cs.length:Int) (i:Int)=some ((P++cs.drop i).length,AI (P++cs.drop i)):=by
 intro j
 induction j with
 | zero =>
   intro i m P hi hP hm
   obtain ⟨m,rfl⟩:=zc m (by omega)
   rw[f75.l0,Bi (by omega),drop_eq_nil_of_le (by omega),append_nil];rfl
 | succ j ih =>
   intro i m P hi hP hm
   obtain ⟨m,rfl⟩:=zc m (by omega)
   have h:i<cs.length:=by omega
   have g:=Hr n (A9 cs i).nums (by have:=hx _ (I9 h);omega)
   have hp:=HE P (A9 cs i)
   unfold Dq at hp
   rw[f75.l0,CQ h,BX h,zT,Uw h]
   simp only[Ac,zA,BJ,kE h,gE h,nE h,lE h,g,AM,BA (show P.length<2147483648 by omega),hp]
   rw[Bb (z:=A9 cs i),Ar (show i<9223372036854775807 by omega),ih (i+1) m _ (by omega) (by simp;omega) (by omega),E7 h]
   simp
theorem Sx (n:Nat) (hn:200<n) (cs:List Bn) (hl:cs.length≤100) (hx:∀ e∈cs,e.nums.length≤1000):f75 (n+2) cs.length (AI cs)=some (cs.length,AI cs):=by
 have e:=LN n cs.length (AI cs) cs hl hx cs.length 0 (n+1) [] (by omega) (by simp) (by omega)
 simp only[drop_zero,nil_append] at e
 have e:f75.l0 (n+1) (n+1) cs.length (AI cs) 0 [] cs.length (AI cs) (cs.length:Int) 0=_:=e
 rw[f75,e];rfl
theorem Uc (acc:List BP) (s:BP):AW acc++AF (reps 1 [(T.lst 0 []),(T.int .i64 (0:Int)),(T.flt .f32 0),(T.bool false),(T.bool false)]) 0 (TR s)=AW (acc++[s]):=by
 unfold AW
 rw[flatMap_append,flatMap_singleton];rfl
theorem bJ (n:Nat) (N1:Nat) (t1:List T) (N3:Nat) (t3:List T) (N5:Nat) (t5:List T) (N7:Nat) (t7:List T) (N11:Nat) (t11:List T) (cs:List Bn) (hl:cs.length≤100) (hx:∀ e∈cs,e.nums.length≤1000):∀ (j i m:Nat) (P:List Bn),i+j=cs.length→P.length≤i→j<m →
  f33.l0 (n+1) m N1 t1 N3 t3 N5 t5 N7 t7 P.length (AI P) N11 t11 cs.length (AI cs) (cs.length:Int) (i:Int)=some (N1,t1,N3,t3,N5,t5,N7,t7,(P++cs.drop i).length,AI (P++cs.drop i),N11,t11):=by
 intro j
 induction j with
 | zero =>
   intro i m P hi hP hm
   obtain ⟨m,rfl⟩:=zc m (by omega)
   rw[f33.l0,Bi (by omega),drop_eq_nil_of_le (by omega),append_nil];rfl
 | succ j ih =>
   intro i m P hi hP hm
   obtain ⟨m,rfl⟩:=zc m (by omega)
   have h:i<cs.length:=by omega
   have g:=Hr n (A9 cs i).nums (by have:=hx _ (I9 h);omega)
   have hp:=HE P (A9 cs i)
   unfold Dq at hp
   rw[f33.l0,CQ h,BX h,zT,Uw h]
   simp only[Ac,zA,BJ,kE h,gE h,nE h,lE h,g,AM,BA (show P.length<2147483648 by omega),hp]
   rw[Bb (z:=A9 cs i),Ar (show i<9223372036854775807 by omega),ih (i+1) m _ (by omega) (by simp;omega) (by omega),E7 h]
   simp
theorem bc (n:Nat) (hn:200<n) (N1:Nat) (t1:List T) (N3:Nat) (t3:List T) (N5:Nat) (t5:List T) (N7:Nat) (t7:List T) (N9:Nat) (t9:List T) (ss:List BP) (hl:ss.length≤100) (hx:∀ s∈ss,s.es.length≤100∧∀ e∈s.es,e.nums.length≤1000):∀ (j i m:Nat) (P:List BP),i+j=ss.length→P.length≤i→j<m →
  f33.l1 (n+2) m N1 t1 N3 t3 N5 t5 N7 t7 N9 t9 P.length (AW P) ss.length (AW ss) (ss.length:Int) (i:Int)=some (N5,t5,N7,t7,N9,t9,(P++ss.drop i).length,AW (P++ss.drop i)):=by
 intro j
 induction j with
 | zero =>
   intro i m P hi hP hm
   obtain ⟨m,rfl⟩:=zc m (by omega)
   rw[f33.l1,Bi (by omega),drop_eq_nil_of_le (by omega),append_nil];rfl
 | succ j ih =>
   intro i m P hi hP hm
   obtain ⟨m,rfl⟩:=zc m (by omega)
   have h:i<ss.length:=by omega
   have hs:=hx _ (IF h)
   have g:=Sx n hn (Bx ss i).es hs.1 hs.2
   have hp:=Uc P (Bx ss i)
   unfold TR at hp
   rw[f33.l1,CQ h,BX h,zT,Vx h]
   simp only[Ac,zA,BJ,dz h,ei h,d7 h,eT h,fA h,fD h,g,AM,BA (show P.length<2147483648 by omega),hp]
   rw[Bb (z:=Bx ss i),Ar (show i<9223372036854775807 by omega),ih (i+1) m _ (by omega) (by simp;omega) (by omega),RM h]
   simp
theorem eZ (n:Nat) (hn:200<n) (cs:List Bn) (ss:List BP) (hl:cs.length≤100) (hx:∀ e∈cs,e.nums.length≤1000) (hl2:ss.length≤100) (hx2:∀ s∈ss,s.es.length≤100∧∀ e∈s.es,e.nums.length≤1000) :
  f33 (n+3) cs.length (AI cs) ss.length (AW ss)=some (cs.length,AI cs,ss.length,AW ss):=by
 have e0:=bJ (n+1) cs.length (AI cs) ss.length (AW ss) 0 [] 0 [] 0 [] cs hl hx cs.length 0 (n+2) [] (by omega) (by simp) (by omega)
 have e0:f33.l0 (n+2) (n+2) cs.length (AI cs) ss.length (AW ss) 0 [] 0 [] 0 [] 0 [] cs.length (AI cs) (cs.length:Int) 0=_:=e0
 have e1:=bc n hn cs.length (AI cs) ss.length (AW ss) 0 [] 0 [] cs.length (AI cs) ss hl2 hx2 ss.length 0 (n+2) [] (by omega) (by simp) (by omega)
 have e1:f33.l1 (n+2) (n+2) cs.length (AI cs) ss.length (AW ss) 0 [] 0 [] cs.length (AI cs) 0 [] ss.length (AW ss) (ss.length:Int) 0=_:=e1
 simp only[drop_zero,nil_append] at e0 e1
 rw[f33,e0]
 simp only[AM,e1]
theorem Ta (n:Nat) (xs:List Nat) (h:xs.length≤2147483648):f40 (n+1) xs.length (AV .f32 xs)=some (xs.length,AV .f32 xs):=by
 rw[f40,Nat.zero_add,Qt h];rfl
theorem Ys (n:Nat) (e:Bn) (h:e.nums.length≤2147483648):f81 (n+2) e.kind e.len e.nums.length (AV .f32 e.nums)=some (e.kind,e.len,e.nums.length,AV .f32 e.nums):=by
 rw[f81,Ta n e.nums h];rfl
theorem QC (n:Nat) (cs:List Bn) (hl:cs.length≤100) (hx:∀ e∈cs,e.nums.length≤1000):∀ (j i m:Nat) (P:List Bn),i+j=cs.length→P.length≤i→j<m →
  f82.l0 (n+1) m cs.length (AI cs) P.length (AI P) (cs.length:Int) (i:Int)=some ((P++cs.drop i).length,AI (P++cs.drop i)):=by
 intro j
 induction j with
 | zero =>
   intro i m P hi hP hm
   obtain ⟨m,rfl⟩:=zc m (by omega)
   rw[f82.l0,Bi (by omega),drop_eq_nil_of_le (by omega),append_nil];rfl
 | succ j ih =>
   intro i m P hi hP hm
   obtain ⟨m,rfl⟩:=zc m (by omega)
   have h:i<cs.length:=by omega
   have g:=Ta n (A9 cs i).nums (by have:=hx _ (I9 h);omega)
   have hp:=HE P (A9 cs i)
   unfold Dq at hp
   rw[f82.l0,CQ h,BX h,zT,Uw h]
   simp only[Ac,zA,BJ,kE h,gE h,nE h,lE h,g,AM,BA (show P.length<2147483648 by omega),hp]
   rw[Bb (z:=A9 cs i),Ar (show i<9223372036854775807 by omega),ih (i+1) m _ (by omega) (by simp;omega) (by omega),E7 h]
   simp
theorem Ya (n:Nat) (hn:200<n) (cs:List Bn) (hl:cs.length≤100) (hx:∀ e∈cs,e.nums.length≤1000):f82 (n+2) cs.length (AI cs)=some (cs.length,AI cs):=by
 have e:=QC n cs hl hx cs.length 0 (n+1) [] (by omega) (by simp) (by omega)
 simp only[drop_zero,nil_append] at e
 have e:f82.l0 (n+1) (n+1) cs.length (AI cs) 0 (reps 0 [(T.int .i64 (0:Int)),(T.int .i64 (0:Int)),(T.lst 0 [])]) (cs.length:Int) 0=_:=e
 rw[f82,e];rfl
theorem bL (n:Nat) (N3:Nat) (t3:List T) (N5:Nat) (t5:List T) (N7:Nat) (t7:List T) (N11:Nat) (t11:List T) (cs:List Bn) (hl:cs.length≤100) (hx:∀ e∈cs,e.nums.length≤1000):∀ (j i m:Nat) (P:List Bn),i+j=cs.length→P.length≤i→j<m →
  f39.l0 (n+2) m cs.length (AI cs) N3 t3 N5 t5 N7 t7 P.length (AI P) N11 t11 (cs.length:Int) (i:Int)=some (cs.length,AI cs,N3,t3,N5,t5,N7,t7,(P++cs.drop i).length,AI (P++cs.drop i),N11,t11):=by
 intro j
 induction j with
 | zero =>
   intro i m P hi hP hm
   obtain ⟨m,rfl⟩:=zc m (by omega)
   rw[f39.l0,Bi (by omega),drop_eq_nil_of_le (by omega),append_nil];rfl
 | succ j ih =>
   intro i m P hi hP hm
   obtain ⟨m,rfl⟩:=zc m (by omega)
   have h:i<cs.length:=by omega
   have g:=Ys n (A9 cs i) (by have:=hx _ (I9 h);omega)
   have hp:=HE P (A9 cs i)
   unfold Dq at hp
   rw[f39.l0,CQ h,BX h,zT,Uw h]
   simp only[Ac,zA,BJ,kE h,gE h,nE h,lE h,g,AM,BA (show P.length<2147483648 by omega),hp]
   rw[Bb (z:=A9 cs i),Ar (show i<9223372036854775807 by omega),ih (i+1) m _ (by omega) (by simp;omega) (by omega),E7 h]
   simp
theorem aC (n:Nat) (hn:200<n) (N1:Nat) (t1:List T) (N5:Nat) (t5:List T) (N7:Nat) (t7:List T) (N9:Nat) (t9:List T) (ss:List BP) (hl:ss.length≤100) (hx:∀ s∈ss,s.es.length≤100∧∀ e∈s.es,e.nums.length≤1000):∀ (j i m:Nat) (P:List BP),i+j=ss.length→P.length≤i→j<m →
  f39.l1 (n+2) m N1 t1 ss.length (AW ss) N5 t5 N7 t7 N9 t9 P.length (AW P) (ss.length:Int) (i:Int)=some (N5,t5,N7,t7,N9,t9,(P++ss.drop i).length,AW (P++ss.drop i)):=by
 intro j
 induction j with
 | zero =>
   intro i m P hi hP hm
   obtain ⟨m,rfl⟩:=zc m (by omega)
   rw[f39.l1,Bi (by omega),drop_eq_nil_of_le (by omega),append_nil];rfl
 | succ j ih =>
   intro i m P hi hP hm
   obtain ⟨m,rfl⟩:=zc m (by omega)
   have h:i<ss.length:=by omega
   have hs:=hx _ (IF h)
   have g:=Ya n hn (Bx ss i).es hs.1 hs.2
   have hp:=Uc P (Bx ss i)
   unfold TR at hp
   rw[f39.l1,CQ h,BX h,zT,Vx h]
   simp only[Ac,zA,BJ,dz h,ei h,d7 h,eT h,fA h,fD h,g,AM,BA (show P.length<2147483648 by omega),hp]
   rw[Bb (z:=Bx ss i),Ar (show i<9223372036854775807 by omega),ih (i+1) m _ (by omega) (by simp;omega) (by omega),RM h]
   simp
theorem aa (n:Nat) (hn:200<n) (cs:List Bn) (ss:List BP) (hl:cs.length≤100) (hx:∀ e∈cs,e.nums.length≤1000) (hl2:ss.length≤100) (hx2:∀ s∈ss,s.es.length≤100∧∀ e∈s.es,e.nums.length≤1000) :
  f39 (n+3) cs.length (AI cs) ss.length (AW ss)=some (cs.length,AI cs,ss.length,AW ss):=by
 have e0:=bL n ss.length (AW ss) 0 [] 0 [] 0 [] cs hl hx cs.length 0 (n+2) [] (by omega) (by simp) (by omega)
 have e0:f39.l0 (n+2) (n+2) cs.length (AI cs) ss.length (AW ss) 0 [] 0 [] 0 (reps 0 [(T.int .i64 (0:Int)),(T.int .i64 (0:Int)),(T.lst 0 [])]) 0 (reps 0 [(T.lst 0 []),(T.int .i64 (0:Int)),(T.flt .f32 0),(T.bool false),(T.bool false)]) (cs.length:Int) 0=_:=e0
 have e1:=aC n hn cs.length (AI cs) 0 [] 0 [] cs.length (AI cs) ss hl2 hx2 ss.length 0 (n+2) [] (by omega) (by simp) (by omega)
 have e1:f39.l1 (n+2) (n+2) cs.length (AI cs) ss.length (AW ss) 0 [] 0 [] cs.length (AI cs) 0 [] (ss.length:Int) 0=_:=e1
 simp only[drop_zero,nil_append] at e0 e1
 rw[f39,e0]
 simp only[AM,e1]
theorem TN (n:Nat) (hn:200<n) (C:List Bn) (S:List BP):f36 (n+7) C.length (AI C) S.length (AW S)=some (if E9 C S=true then .inr (C.length,AI C,S.length,AW S,true,C.length,AI C,S.length,AW S) else .inl (0,[],0,[],false,C.length,AI C,S.length,AW S)):=by
 rw[f36,QR n C S (by omega),AM]
 cases E9 C S <;>rfl
def dU (e:Bn):Bool:=e.kind==0&&RQ .f32 (e.nums.getD 0 0) 1065353216
def R6 (es:List Bn):List Bn:=es.filter fun e => !dU e
theorem Vb {es:List Bn} {e:Bn} (h:e∈R6 es):e∈es:=(List.mem_filter.1 h).1
theorem Q3 (es:List Bn):(R6 es).length≤es.length:=List.length_filter_le _ _
def jB (s:BP) (es:List Bn):BP:=⟨es,s.tn,s.pan,s.mute,s.solo⟩
def cY (H:List Bool) (k:Nat) (s:BP):BP:=jB s (if H.getD k false then R6 s.es else [])
def fC (es:List Bn) (i:Nat) (l:List T):Prop:=∀ j c,i≤j→j<es.length→c<3→l[j * 3+c]?=(Dq (A9 es j))[c]?
theorem fC.next {es:List Bn} {i:Nat} {l:List T} (h:fC es i l):fC es (i+1) l:=fun j c hi=>h j c (by omega)
section
variable {es:List Bn} {i:Nat} {l:List T} (h:fC es i l) (hi:i<es.length)
include h hi
end
def aK (S:List BP):Prop:=∀ s∈S,s.es.length≤100∧∀ e∈s.es,JD e=true
theorem aK.set {S:List BP} (h:aK S) (H:List Bool) {i:Nat} (hi:i<S.length):aK (S.set i (cY H i (Bx S i))):=by
 intro s hs
 rcases mem_or_eq_of_mem_set hs with hs | rfl
 ·exact h s hs
 ·obtain ⟨h1,h2⟩:=h _ (IF hi)
  show (if H.getD i false then R6 (Bx S i).es else []).length≤100∧∀ e∈(if H.getD i false then R6 (Bx S i).es else []),JD e=true
  split
  ·exact ⟨Nat.le_trans (Q3 _) h1,fun e he=>h2 e (Vb he)⟩
  ·exact ⟨by simp,fun e he=>by simp at he⟩
structure gi (n:Nat) (S:List BP) (P:List Bn) (i M:Nat):Prop where
 len:S.length=n
 st:∀ s∈S,Gn s.es=true∧(-2000≤s.tn∧s.tn≤2000)∧H6 s.pan=true
 sz:bG S≤M
 pl:P.length≤i
 pc:∀ c∈P,(0≤c.kind∧c.kind<(n:Int))∧(0≤c.len∧c.len≤256)∧c.nums.length≤256
theorem Ic (track frm:Int):∀ (a b:List Bn) (out:List Nat),BZ track frm (a++b) out=BZ track frm b (BZ track frm a out)
 | [],_,_=>rfl
 | c::a,b,out=>by rw[cons_append,BZ,BZ,Ic track frm a b]
theorem NV (n:Nat) (hn:1400<n) (cl:List Bn) (ss:List BP) (h1:E9 cl ss=true) (E:Nat→List Ef) (hE:UW E ss) (k:Nat) (hk:k≤256) :
  f9 (n+200) cl.length (AI cl) ss.length (AW ss) (k:Int)=some (k,AV .f32 (MN k (CV E cl ss k ss.length)).1,k,AV .f32 (MN k (CV E cl ss k ss.length)).2,true):=by
 have v2:=QR (n+193) cl ss (by omega)
 have v2:f25 (n+199) cl.length (AI cl) ss.length (AW ss)=_:=v2
 have c1:=Uk (n+197) (k:Int)
 have c1:f26 (n+199) (k:Int)=_:=c1
 have hok:=Py h1
 have hs8:ss.length≤8:=hok.n.2
 have a1:=OY (n+49) (by omega) cl ss hok E hE k hk hs8 ss.length 0 (n+199) (by omega) (by omega)
 have a1:f9.l0 (n+199) (n+199) (k:Int) cl.length (AI cl) ss.length (AW ss) 0 [] ss.length (AW ss) (ss.length:Int) 0=some ((k:Int),ss.length,D8 (CV E cl ss k ss.length)):=a1
 have m1:=ZC (n+157) k (by omega) (CV E cl ss k ss.length) (by rw[Fm];omega) (X0 hok hE hk) (by omega)
 rw[Fm] at m1
 have m1:f28 (n+199) ss.length (D8 (CV E cl ss k ss.length)) (k:Int)=_:=m1
 rw[f9,v2]
 simp only[AM,c1,h1,decide_eq_true (show 0≤(k:Int)∧(k:Int)≤256 by omega),Bool.not_true,Al,a1,m1]
theorem VG {cl:List Bn} {ss:List BP} (h:Uo cl ss):∃ E,UW E ss:=by
 have:∀ i,∃ es:List Ef,i<ss.length→C8 es=(Bx ss i).es∧(∀ e∈es,e.Ok)∧es.length≤8:=by
  intro i
  by_cases hi:i<ss.length
  ·obtain ⟨⟨es,h1⟩,-⟩:=h.s _ (IF hi)
   exact ⟨es,fun _=>h1⟩
  ·exact ⟨[],fun h=>absurd h hi⟩
 exact ⟨fun i=>Classical.choose (this i),fun i hi=>Classical.choose_spec (this i) hi⟩
def Ow (e:Bn) (a:Nat):Bn:=⟨e.kind,e.len,e.nums.take a⟩
def XQ (e:Bn) (a:Nat):Bn:=⟨e.kind,e.len+(a:Int),e.nums.drop a⟩
def Bz (cl:List Bn) (i a:Nat):List Bn:=cl.take i++(Ow (A9 cl i) a::XQ (A9 cl i) a::cl.drop (i+1))
theorem OO (e:Bn):(Dq e).length=3:=rfl
theorem Nj (cs:List Bn) (i:Nat):(AI cs).take (i * 3)=AI (cs.take i):=by
 induction cs generalizing i with
 | nil=>simp[AI]
 | cons e cs ih =>
   cases i with
   | zero=>simp[AI]
   | succ i =>
     have e1:AI (e::cs)=Dq e++AI cs:=rfl
     have e2:AI ((e::cs).take (i+1))=Dq e++AI (cs.take i):=rfl
     rw[e1,e2,← ih,Nat.succ_mul,Nat.add_comm,← OO e,List.take_length_add_append]
theorem M1 (cs:List Bn) (i:Nat):(AI cs).drop (i * 3)=AI (cs.drop i):=by
 induction cs generalizing i with
 | nil=>simp[AI]
 | cons e cs ih =>
   cases i with
   | zero=>simp
   | succ i =>
     have e1:AI (e::cs)=Dq e++AI cs:=rfl
     rw[e1,Nat.succ_mul,Nat.add_comm,← OO e,List.drop_length_add_append]
     exact ih i
theorem O9 (a b:List Bn):AI (a++b)=AI a++AI b:=by simp[AI]
theorem Gm {cl:List Bn} {i:Nat} (a:Nat) (h:i<cl.length):(Bz cl i a).length=cl.length+1:=by
 simp[Bz];omega
theorem Rr (cl:List Bn) (i a:Nat):AI (Bz cl i a)=AI (cl.take i)++(Dq (Ow (A9 cl i) a)++(Dq (XQ (A9 cl i) a)++AI (cl.drop (i+1)))):=by
 unfold Bz
 rw[O9]
 rfl
theorem VH (cs vs:List T) (k j:Nat) (h:j≤k):(AF cs k vs).take j=cs.take j:=by
 induction vs generalizing cs k with
 | nil=>rfl
 | cons v vs ih=>rw[AF,ih _ _ (by omega),List.take_set_of_le h]
theorem VJ (cs vs:List T) (k j:Nat) (h:k+vs.length≤j):(AF cs k vs).drop j=cs.drop j:=by
 induction vs generalizing cs k with
 | nil=>rfl
 | cons v vs ih =>
   simp only[length_cons] at h
   rw[AF,ih _ _ (by omega),List.drop_set_of_lt (by omega)]
theorem RK (el:List Pm) (l m:Nat) (cs:List T) (j:Nat) (h:j≤l * el.length) (hc:j≤cs.length):(DL el l m cs).take j=cs.take j:=by
 unfold DL
 rw[List.take_append_of_le_length (by rw[length_take];omega),List.take_take,Nat.min_eq_left h]
theorem Vq (vs:List T):∀ (cs:List T) (k:Nat),(AF cs k vs).length=cs.length:=by
 induction vs with
 | nil=>intro cs k;rfl
 | cons v vs ih=>intro cs k;rw[AF,ih,length_set]
theorem Pf:∀ (cl:List Bn) (i:Nat) (e:List Nat),i<cl.length→AF (AI cl) (i * 3+2) [.lst e.length (AV .f32 e)]=AI (cl.set i ⟨(A9 cl i).kind,(A9 cl i).len,e⟩)
 | c::cl,0,e,_=>rfl
 | c::cl,i+1,e,h=>by
   have ih:=Pf cl i e (by simpa using h)
   have e1:AI (c::cl)=Dq c++AI cl:=rfl
   rw[e1,show (i+1) * 3+2=(Dq c).length+(i * 3+2) by rw[OO];omega]
   have e2:∀ (a b:List T) (k:Nat) (v:T),AF (a++b) (a.length+k) [v]=a++AF b k [v]:=fun a b k v=>by
    simp only[AF]
    rw[List.set_append_right _ _ (by omega),Nat.add_sub_cancel_left]
   rw[e2,ih]
   rfl
theorem O8:∀ (cl:List Bn) (i:Nat) (e:Bn),i<cl.length→(cl.set i e).take (i+1)=cl.take i++[e]
 | c::cl,0,e,_=>by simp
 | c::cl,i+1,e,h=>by
   have ih:=O8 cl i e (by simpa using h)
   simp[ih]
theorem Ti (n:Nat) (hn:1200<n) (cl:List Bn) (ss:List BP) (hsm:E9 cl ss=true→∀ s∈ss,s.es.length≤100∧∀ e∈s.es,e.nums.length≤1000) (hl:cl.length≤1099511627776) (t k:Int) :
  ∃ (cl':List Bn) (ss':List BP) (b:Bool),f13 (n+200) cl.length (AI cl) ss.length (AW ss) t k=some (cl'.length,AI cl',ss'.length,AW ss',b)∧f12 (n+200) cl.length (AI cl) ss.length (AW ss) t k=some (cl'.length,AI cl',ss'.length,AW ss',b) ∧
   ((b=false∧cl'=[]∧ss'=[])∨(b=true∧ss'=ss∧E9 cl ss=true∧E9 cl' ss=true∧∃ i a:Nat,t=(i:Int)∧k=(a:Int)∧i<cl.length∧1≤a∧a<(A9 cl i).nums.length∧cl'=Bz cl i a)):=by
 have v1:=UV (n+193) cl ss (by omega)
 have v1:f37 (n+199) cl.length (AI cl) ss.length (AW ss)=_:=v1
 have v2:=QR (n+193) cl ss (by omega)
 have v2:f25 (n+199) cl.length (AI cl) ss.length (AW ss)=_:=v2
 have w:IntKind.i64.wrap ((cl.length:Int) - 1)=(cl.length:Int) - 1:=by rw[A6] <;>omega
 rw[f13,f12,v1,v2,w]
 simp only[AM,YD,QJ,Un (n+197) t cl.length (by omega)]
 by_cases h1:E9 cl ss=true
 case neg =>
  have h1:E9 cl ss=false:=by simpa using h1
  rw[h1];exact ⟨[],[],false,rfl,rfl,.inl ⟨rfl,rfl,rfl⟩⟩
 rw[h1]
 by_cases h2:0≤t∧t≤(cl.length:Int) - 1
 case neg=>rw[decide_eq_false h2];exact ⟨[],[],false,rfl,rfl,.inl ⟨rfl,rfl,rfl⟩⟩
 rw[decide_eq_true h2]
 have hok:=Py h1
 obtain ⟨i,rfl⟩:=Int.eq_ofNat_of_zero_le h2.1
 have hi:i<cl.length:=by omega
 have hcl:∀ e∈cl,e.nums.length≤256:=fun e he=>(hok.k e he).2.2
 have hc:=hok.k _ (I9 hi)
 have hc12:=hok.c
 have hs8:=hok.n
 have r1:decide ((0:Int)≤(i:Int)∧(i:Int)<((cl.length:Nat):Int))=true:=BX hi
 have w2:IntKind.i64.wrap (((A9 cl i).nums.length:Int) - 1)=((A9 cl i).nums.length:Int) - 1:=by rw[A6] <;>omega
 simp only[Bool.not_true,Al,Ac,AM,r1,zT,Uw hi,zA,BJ,nE hi,Qg (n+198),w2]
 by_cases h3:1≤k∧k≤((A9 cl i).nums.length:Int) - 1
 case neg=>rw[decide_eq_false h3];exact ⟨[],[],false,rfl,rfl,.inl ⟨rfl,rfl,rfl⟩⟩
 rw[decide_eq_true h3]
 obtain ⟨a,rfl⟩:=Int.eq_ofNat_of_zero_le (show 0≤k by omega)
 have ha:a<(A9 cl i).nums.length:=by omega
 have o1:=aa (n+196) (by omega) cl ss (by omega) (fun e he=>by have:=hcl e he;omega) (by omega) (hsm h1)
 have o1:f39 (n+199) cl.length (AI cl) ss.length (AW ss)=_:=o1
 have o2:=eZ (n+196) (by omega) cl ss (by omega) (fun e he=>by have:=hcl e he;omega) (by omega) (hsm h1)
 have o2:f33 (n+199) cl.length (AI cl) ss.length (AW ss)=_:=o2
 have k1:∀ xs:List Nat,xs.length≤256→f40 (n+199) xs.length (AV .f32 xs)=some (xs.length,AV .f32 xs):=fun xs h=>Ta (n+198) xs (by omega)
 have k2:∀ xs:List Nat,xs.length≤256→f34 (n+199) xs.length (AV .f32 xs)=some (xs.length,AV .f32 xs):=fun xs h=>Hr (n+198) xs (by omega)
 have lt:((A9 cl i).nums.take a).length=a:=by rw[length_take];omega
 have ld:((A9 cl i).nums.drop a).length=(A9 cl i).nums.length - a:=by rw[length_drop]
 have k1a:=k1 ((A9 cl i).nums.take a) (by omega)
 have k1b:=k1 ((A9 cl i).nums.drop a) (by omega)
 have k2a:=k2 ((A9 cl i).nums.take a) (by omega)
 have k2b:=k2 ((A9 cl i).nums.drop a) (by omega)
 rw[lt] at k1a k2a
 rw[ld] at k1b k2b
 have d1:decide ((0:Int)≤(0:Int)∧(0:Int)≤(a:Int)∧(a:Int)≤(((A9 cl i).nums.length:Nat):Int))=true:=decide_eq_true (by omega)
 have d2:decide ((0:Int)≤(a:Int)∧(a:Int)≤(((A9 cl i).nums.length:Nat):Int)∧(((A9 cl i).nums.length:Nat):Int)≤(((A9 cl i).nums.length:Nat):Int))=true:=decide_eq_true (by omega)
 have w3:IntKind.i64.wrap ((i:Int)+1)=((i+1:Nat):Int):=by rw[A6] <;>omega
 have w4:IntKind.i64.wrap ((A9 cl i).len+(a:Int))=(A9 cl i).len+(a:Int):=by rw[A6] <;>omega
 have d3:decide ((0:Int)≤((i+1:Nat):Int)∧((i+1:Nat):Int)≤((cl.length:Nat):Int)∧((cl.length:Nat):Int)≤((cl.length:Nat):Int))=true:=decide_eq_true (by omega)
 have d4:decide ((0:Int)≤(0:Int)∧(0:Int)≤(i:Int)∧(i:Int)≤((cl.length:Nat):Int))=true:=decide_eq_true (by omega)
 have tk:List.take a (List.drop 0 (AV .f32 (A9 cl i).nums))=AV .f32 ((A9 cl i).nums.take a):=by rw[drop_zero,Gv]
 have tk2:List.take ((A9 cl i).nums.length - a) (List.drop a (AV .f32 (A9 cl i).nums))=AV .f32 ((A9 cl i).nums.drop a):=by
  rw[Kh,Gv,take_of_length_le (by rw[length_drop];omega)]
 simp only[Bool.not_true,Al,o1,o2,AM,r1,Uw hi,kE hi,gE hi,nE hi,lE hi,zA,BJ,d1,d2,d4,Nat.sub_zero,tk,tk2,k1a,k1b,k2a,k2b,w3,w4,zT,d3,Nat.add_zero,Nat.zero_add]
 have okE0:AR [.int .i64,.int .i64,.lst] (AI cl) (i * 3)=true:=Uw hi
 have kE0:FA (AI cl) (i * 3)=(A9 cl i).kind:=kE hi
 have le:=L8 cl
 have e1:List.take (i * 3) (List.drop 0 (DL [Pm.leaf,Pm.leaf,Pm.sl Fl.own [Pm.leaf]] (i+1) (cl.length - (i+1)) (AF (AI cl) (i * 3) [T.int IntKind.i64 (A9 cl i).kind,T.int IntKind.i64 (A9 cl i).len,T.nil])))=AI (cl.take i):=by
  rw[drop_zero,RK _ _ _ _ _ (by simp;omega) (by rw[Vq,le];omega),VH _ _ _ _ (Nat.le_refl _),Nj]
 have e2:List.take ((cl.length - (i+1)) * 3) (List.drop ((i+1) * 3) (AF (AI cl) (i * 3) [T.int IntKind.i64 (A9 cl i).kind,T.int IntKind.i64 (A9 cl i).len,T.nil]))=AI (cl.drop (i+1)):=by
  rw[VJ _ _ _ _ (by simp;omega),M1,take_of_length_le (by rw[L8,length_drop];omega)]
 have hlen:=Gm a hi
 have e3:i+1+(1+(cl.length - (i+1)))=(Bz cl i a).length:=by rw[hlen];omega
 have eL:AI (cl.take i)++[T.int IntKind.i64 (A9 cl i).kind,T.int IntKind.i64 (A9 cl i).len,T.lst a (AV FloatKind.f32 (List.take a (A9 cl i).nums))] ++
   ([T.int IntKind.i64 (A9 cl i).kind,T.int IntKind.i64 ((A9 cl i).len+(a:Int)),T.lst ((A9 cl i).nums.length - a) (AV FloatKind.f32 (List.drop a (A9 cl i).nums))]++AI (cl.drop (i+1)))=AI (Bz cl i a):=by
  rw[Rr,append_assoc]
  have c1:Dq (Ow (A9 cl i) a)=[T.int IntKind.i64 (A9 cl i).kind,T.int IntKind.i64 (A9 cl i).len,T.lst a (AV FloatKind.f32 (List.take a (A9 cl i).nums))]:=by simp only[Dq,Ow,lt]
  have c2:Dq (XQ (A9 cl i) a)=[T.int IntKind.i64 (A9 cl i).kind,T.int IntKind.i64 ((A9 cl i).len+(a:Int)),T.lst ((A9 cl i).nums.length - a) (AV FloatKind.f32 (List.drop a (A9 cl i).nums))]:=by simp only[Dq,XQ,ld]
  rw[c1,c2]
 have s0:∀ x y z:T,AF (reps 1 [T.int IntKind.i64 0,T.int IntKind.i64 0,T.lst 0 []]) 0 [x,y,z]=[x,y,z]:=fun _ _ _=>rfl
 have s1:∀ x y z:T,AF (AF (AF [T.int IntKind.i64 0,T.int IntKind.i64 0,T.lst 0 []] 0 [x]) 1 [y]) 2 [z]=[x,y,z]:=fun _ _ _=>rfl
 have r0:reps 0 [T.int IntKind.i64 0,T.int IntKind.i64 0,T.lst 0 []]=[]:=rfl
 have hst:AF (AI cl) (i * 3+2) [T.lst a (AV FloatKind.f32 (List.take a (A9 cl i).nums))]=AI (cl.set i (Ow (A9 cl i) a)):=by
  have:=Pf cl i ((A9 cl i).nums.take a) hi
  rw[lt] at this
  exact this
 have xi:FY 3 (n+199) cl.length (AI (cl.set i (Ow (A9 cl i) a))) ((i+1:Nat):Int) 1 [T.int IntKind.i64 (A9 cl i).kind,T.int IntKind.i64 ((A9 cl i).len+(a:Int)),T.lst ((A9 cl i).nums.length - a) (AV FloatKind.f32 (List.drop a (A9 cl i).nums))] =
   some ((Bz cl i a).length,AI (Bz cl i a),cl.length,AI (cl.set i (Ow (A9 cl i) a)),1,[T.int IntKind.i64 (A9 cl i).kind,T.int IntKind.i64 ((A9 cl i).len+(a:Int)),T.lst ((A9 cl i).nums.length - a) (AV FloatKind.f32 (List.drop a (A9 cl i).nums))]):=by
  have hx:∀ (n k:Nat) (cs ds:List T) (i:Nat),i≤k→0<k→k<1000000→FY 3 (n+1) k cs (i:Int) 1 ds=some (k+1,cs.take (i * 3)++ds++cs.drop (i * 3),k,cs,1,ds):=fun n k cs ds i h1 h2 h3=>by
   unfold FY
   exact if_pos (by omega)
  rw[show n+199=n+198+1 from rfl,hx _ _ _ _ _ (by omega) (by omega) (by omega),Nj,M1,O8 _ _ _ hi,List.drop_set_of_lt (by omega),hlen,← eL]
  have c1:AI (cl.take i++[Ow (A9 cl i) a])=AI (cl.take i)++[T.int IntKind.i64 (A9 cl i).kind,T.int IntKind.i64 (A9 cl i).len,T.lst a (AV FloatKind.f32 (List.take a (A9 cl i).nums))]:=by
   rw[O9]
   simp[AI,Dq,Ow,lt]
  rw[c1,append_assoc (AI (cl.take i)++_)]
 have b1:Nat.ble (1+(cl.length - (i+1))) 2147483648=true:=by simp;omega
 have b2:Nat.ble i 2147483648=true:=by simp;omega
 have b3:Nat.ble (i+1) 2147483648=true:=by simp;omega
 have b4:Nat.ble (Bz cl i a).length 2147483648=true:=by simp;omega
 have b5:Nat.ble (i * 3+2+1) (AI cl).length=true:=by rw[le];simp;omega
 have v3:=UV (n+193) (Bz cl i a) ss (by omega)
 have v3:f37 (n+199) (Bz cl i a).length (AI (Bz cl i a)) ss.length (AW ss)=_:=v3
 have ck:=TN (n+192) (by omega) (Bz cl i a) ss
 have ck:f36 (n+199) (Bz cl i a).length (AI (Bz cl i a)) ss.length (AW ss)=_:=ck
 simp only[okE0,kE0,e1,e2,e3,s0,s1,r0,nil_append,hst,xi,eL,b1,b2,b3,b4,b5,BJ,zA,AM,v3,ck]
 cases hv:E9 (Bz cl i a) ss
 ·exact ⟨[],[],false,rfl,rfl,.inl ⟨rfl,rfl,rfl⟩⟩
 ·exact ⟨Bz cl i a,ss,true,rfl,rfl,.inr ⟨rfl,rfl,trivial,hv,i,a,rfl,rfl,hi,by omega,ha,rfl⟩⟩
theorem MG:∀ (xs:List Nat) (a:Nat) (p:Int) (out:List Nat),a≤xs.length→DU (p+(a:Int)) (xs.drop a) (DU p (xs.take a) out)=DU p xs out
 | xs,0,p,out,_=>by simp[DU]
 | [],a+1,p,out,h=>by simp at h
 | x::xs,a+1,p,out,h=>by
   rw[take_succ_cons,List.drop_succ_cons,DU,DU,← MG xs a (p+1) _ (by simpa using h)]
   congr 1
   omega
theorem OZ (t:Int) {cl:List Bn} {i a:Nat} (hi:i<cl.length) (ha:a≤(A9 cl i).nums.length) (out:List Nat):BZ t 0 (Bz cl i a) out=BZ t 0 cl out:=by
 have h:cl=cl.take i++(A9 cl i::cl.drop (i+1)):=by
  rw[← E7 hi,take_append_drop]
 conv=>rhs;rw[h]
 unfold Bz
 rw[Ic,Ic,BZ,BZ,BZ]
 unfold Ow XQ
 simp only
 by_cases hk:(A9 cl i).kind=t
 ·rw[if_pos hk,if_pos hk,if_pos hk,show (A9 cl i).len+(a:Int) - 0=(A9 cl i).len - 0+(a:Int) by omega,MG _ _ _ _ ha]
 ·rw[if_neg hk,if_neg hk,if_neg hk]
theorem UH (E:Nat→List Ef) {cl:List Bn} (ss:List BP) (k n:Nat) {i a:Nat} (hi:i<cl.length) (ha:a≤(A9 cl i).nums.length):CV E (Bz cl i a) ss k n=CV E cl ss k n:=by
 unfold CV
 refine map_congr_left fun j _ => ?_
 unfold V1 Lz
 rw[OZ _ hi ha]
theorem dY (n:Nat) (hn:1600<n) (cs:List Int) (hc:∀ b∈cs,IX .u8 b) (ms:List Int) (hm:∀ b∈ms,IX .u8 b):f3 (n+300) cs.length (its .u8 cs) ms.length (its .u8 ms)=some true:=by
 rw[f3,Xf (n+298)]
 cases hlong:decide (1048576<cs.length∨1048576<ms.length)
 case true=>rfl
 obtain ⟨cl,ss,hD,e1⟩:=YX (n+287) (Ig hc) (by omega)
 have e1:f7 (n+299) cs.length (its .u8 cs)=_:=e1
 have hs:=Tx hD
 have hsm:=SO hD
 have hok:=Py hs
 have hn1:=hok.n
 have hc12:=hok.c
 obtain ⟨E,hE⟩:=VG hD
 obtain ⟨k,hk,e2⟩:=QP (n+298) (Ig hm) (i:=0) (k:=24) (by omega) (by omega) (by omega)
 obtain ⟨k,rfl⟩:=Int.eq_ofNat_of_zero_le hk.1
 have hk24:k≤256:=by omega
 obtain ⟨z,hz,e3⟩:=QP (n+298) (Ig hm) (i:=1) (k:=9) (by omega) (by omega) (by omega)
 obtain ⟨c,hcl,e4⟩:=QP (n+298) (Ig hm) (i:=2) (k:=4) (by omega) (by omega) (by omega)
 obtain ⟨a,ha,e5⟩:=QP (n+298) (Ig hm) (i:=3) (k:=6) (by omega) (by omega) (by omega)
 have b1:=NV (n+99) (by omega) cl ss hs E hE k hk24
 have b1:f9 (n+299) cl.length (AI cl) ss.length (AW ss) (k:Int)=_:=b1
 have b0:=NV (n+98) (by omega) cl ss hs E hE k hk24
 have b0:f9 (n+298) cl.length (AI cl) ss.length (AW ss) (k:Int)=_:=b0
 have w1:IntKind.i64.wrap (1+z)=1+z:=by rw[A6] <;>omega
 have w2:IntKind.i64.wrap (1+a)=1+a:=by rw[A6] <;>omega
 obtain ⟨cl',ss',b,s1,s2,hcase⟩:=Ti (n+99) (by omega) cl ss (fun _=>hsm) (by omega) c (1+a)
 have s1:f13 (n+299) cl.length (AI cl) ss.length (AW ss) c (1+a)=_:=s1
 have s2:f12 (n+299) cl.length (AI cl) ss.length (AW ss) c (1+a)=_:=s2
 obtain ⟨L,hL⟩:∃ L,L=(MN k (CV E cl ss k ss.length)).1:=⟨_,rfl⟩
 obtain ⟨R,hR⟩:∃ R,R=(MN k (CV E cl ss k ss.length)).2:=⟨_,rfl⟩
 obtain ⟨ml,mr⟩:=Si k (CV E cl ss k ss.length)
 have hw:(∀ x∈(MN k (CV E cl ss k ss.length)).1,Bj x)∧∀ x∈(MN k (CV E cl ss k ss.length)).2,Bj x:=by
  have hz:∀ x∈List.replicate k 0,Bj x:=He k
  obtain ⟨-,-,a,b⟩:=Ia k ((CV E cl ss k ss.length).filter (hf (Mr (CV E cl ss k ss.length)))) (Zk k) hz hz
  exact ⟨a,b⟩
 rw[← hL] at b1 b0 ml hw
 rw[← hR] at b1 b0 mr hw
 have sL:=TA (n+294) L L hw.1 hw.1 (by omega) (by omega)
 have sR:=TA (n+294) R R hw.2 hw.2 (by omega) (by omega)
 rw[decide_eq_true rfl,ml] at sL
 rw[decide_eq_true rfl,mr] at sR
 have sL:f11 (n+299) k (AV .f32 L) k (AV .f32 L)=some true:=sL
 have sR:f11 (n+299) k (AV .f32 R) k (AV .f32 R)=some true:=sR
 have bb:f10 (n+299) cl.length (AI cl) ss.length (AW ss) (k:Int) (1+z)=some (k,AV .f32 L,k,AV .f32 R,true):=by
  rw[f10,QJ (n+297),decide_eq_true (show 1≤1+z∧1+z≤256 by omega)]
  simp only[AM,Bool.not_true,Al,b0]
 have w3:IntKind.i64.wrap ((cl.length:Int)+1)=(cl.length:Int)+1:=by rw[A6] <;>omega
 simp only[Al,AM,e1,e2,e3,e4,e5,w1,w2,b1,bb,s1,s2,Bool.not_true,sL,sR,bne_self_eq_false,beq_self_eq_true]
 rcases hcase with ⟨rfl,rfl,rfl⟩ | ⟨rfl,rfl,-,h2,i,q,-,-,hi,h3,h4,rfl⟩
 ·rfl
 ·have b3:=NV (n+99) (by omega) (Bz cl i q) ss' h2 E hE k hk24
  rw[UH E ss' k ss'.length hi (by omega),← hL,← hR] at b3
  have b3:f9 (n+299) (Bz cl i q).length (AI (Bz cl i q)) ss'.length (AW ss') (k:Int)=_:=b3
  rw[Gm q hi] at b3
  simp only[Gm q hi,Bool.not_true,Al,b3,AM,Ac,sL,sR,w3]
  simp
theorem aP (cs:List Int) (hc:∀ b∈cs,IX .u8 b) (lc:cs.length≤maxLen) (ms:List Int) (hm:∀ b∈ms,IX .u8 b) (lm:ms.length≤maxLen):∃ n,f3 n cs.length (its .u8 cs) ms.length (its .u8 ms)=some true :=
 ⟨2300,dY 2000 (by omega) cs hc ms hm⟩
theorem law3:∀ args,EE E Tryz.f3.params.toList args→∃ N os,Ab E N 3 args=some ⟨[⟨false,[.leaf],[.bool true]⟩],os⟩:=by
 intro args h0
 have hp:Tryz.f3.params.toList=[22,22]:=by kernel_rfl
 rw[hp] at h0
 obtain ⟨ts0,r0,rfl,hw0,h1⟩:=h0.cons_inv (d:=⟨false,1,24,[.sl .own [.leaf]],[.lst 0 []],.slc 5⟩) (by kernel_rfl)
 obtain ⟨n0,cs0,rfl,gl0,hs0⟩:=hw0.slc_inv (e:=5) (d:=⟨false,1,24,[.sl .own [.leaf]],[.lst 0 []],.slc 5⟩) (by kernel_rfl) rfl
 obtain ⟨a0,rfl,rfl,g0⟩:=hs0.ints (k:=.u8) (d:=⟨false,1,1,[.leaf],[.int .u8 0],.int .u8⟩) (by kernel_rfl) rfl
 obtain ⟨ts1,r1,rfl,hw1,h2⟩:=h1.cons_inv (d:=⟨false,1,24,[.sl .own [.leaf]],[.lst 0 []],.slc 5⟩) (by kernel_rfl)
 obtain ⟨n1,cs1,rfl,gl1,hs1⟩:=hw1.slc_inv (e:=5) (d:=⟨false,1,24,[.sl .own [.leaf]],[.lst 0 []],.slc 5⟩) (by kernel_rfl) rfl
 obtain ⟨a1,rfl,rfl,g1⟩:=hs1.ints (k:=.u8) (d:=⟨false,1,1,[.leaf],[.int .u8 0],.int .u8⟩) (by kernel_rfl) rfl
 obtain rfl:=h2.nil_inv
 obtain ⟨N,hN⟩:=aP a0 g0 gl0 a1 g1 gl1
 exact ⟨N,_,f3.ok N (a0.length,its .u8 a0,a1.length,its .u8 a1) true hN⟩
end Go.Proofs.YtokonabdnlckdaaGreat.D
end
section
namespace Go.Proofs.YtokonabdnlckdaaGreat.fnBlocks
open Go Go.ChangeShapes Go.WideShapes Go.ChangeAt Go.RowKit Go.Desk
set_option linter.unusedVariables false
theorem own:ownKnob Tryz.prog.godebug=none:=by kernel_rfl
theorem laidOut:laidOutB Tryz.prog=true:=by kernel_rfl
set_option maxRecDepth 100000 in
theorem lifted (os:Os) (started:os.Started) (H:Type) (enc:TypeId × Value→H) :
  ReturnsInHanded {} Tryz.checked os 3 .any (Rows.fnBlocksSpec.pre6 enc Tryz.prog Tryz.f3 Rows.fnBlocksRow.domain false) (Rows.fnBlocksSpec.post enc Tryz.prog Tryz.f3 false true false false):=by
 refine returnsInHanded_of_change (C:=Tryz.checked) own started (by kernel_rfl) Tryz.func3
  (ChangeSpec.witness6 (enc:=enc) (C:=Tryz.checked) false ⟨#[],#[.slice none 0 0,.slice none 0 0],[]⟩ 8 (by kernel_rfl) (by kernel_rfl) (by kernel_rfl) (by kernel_rfl)) ?_
 intro W base args ds gs before hval hW hcnd _
 exact law_contract (c:=D.c3) Tryz.checked.mixed D.tysOk D.fnOk Tryz.func3 (by kernel_rfl) (by kernel_rfl) (by kernel_rfl) Tryz.underlying4 rfl
  (fun ds h=>by
    rw[show Tryz.f3.params.toList.length=2 by kernel_rfl] at h
    match ds,h with
    | [_,_],_=>rfl)
  laidOut (N:=8) (by kernel_rfl) (by kernel_rfl) D.law3 hval hW
theorem over:Rows.fnBlocksRow.holds Tryz.pinned (OpenSpec.ofChange Rows.fnBlocksSpec) :=
 OpenClaim.holds_of_wide 3 Tryz.f3 rfl rfl rfl rfl rfl rfl rfl ⟨rfl,rfl,rfl,rfl,rfl⟩ rfl rfl rfl rfl rfl (by kernel_rfl) Tryz.func3 (by kernel_rfl)
  (of_decide_eq_true (by kernel_rfl)) (by unfold Func.isWrapper;first | (rw[if_pos (by decide +kernel)];kernel_rfl) | (rw[if_neg (by decide +kernel)];exact ⟨rfl,rfl⟩))
  (fun os started H enc _=>lifted os started H enc)
theorem proved:Rows.FnBlocksSaid:=over
#print axioms proved
end Go.Proofs.YtokonabdnlckdaaGreat.fnBlocks
namespace Go.Proofs.YtokonabdnlckdaaGreat
theorem fnBlocks_holds:Rows.FnBlocksSaid:=fnBlocks.proved
end Go.Proofs.YtokonabdnlckdaaGreat
end
