/- FnFrozen holds: for every input the law returns true, and its arguments read as before. -/
import Derived.Test.YtdobhipbgpiceaaGreatM5d
set_option linter.all false
set_option linter.unusedVariables false
open List (all_cons all_eq_true any_cons any_eq_false any_eq_true any_map append_assoc append_nil cons_append count_append drop_drop drop_eq_getElem_cons drop_eq_nil_of_le drop_left' drop_zero filter_cons_of_neg filter_cons_of_pos flatMap_append flatMap_cons flatMap_def flatMap_singleton flatten_cons flatten_nil foldl_cons length_append length_cons length_drop length_eq_one_iff length_eq_zero_iff length_map length_nil length_replicate length_set length_singleton length_take mapM_cons map_append map_congr_left map_cons map_map map_nil mem_append mem_append_left mem_cons mem_cons_of_mem mem_cons_self mem_filter mem_flatten mem_map mem_of_mem_drop mem_or_eq_of_mem_set mem_range mem_replicate mem_singleton nil_append nodup_append nodup_cons not_mem_nil perm_append_comm perm_iff_count perm_middle replicate_succ take_append_drop take_left' take_length take_of_length_le take_succ_cons take_zero)
noncomputable section
namespace Go.Proofs.YtdobhipbgpiceaaGreat.D
open Go Go.Desk
theorem f134.ok:Bh 134 f134.P RX f134.A f134.F:=Bi fF f134.O
def f134.w:A7 E:=BQ 134 f134.P RX f134.A f134.F f134.ok
def f163:Nat→Nat→Nat→Option (Nat)
 | 0,_,_=>none
 | n+1,x1,x2 =>
   bd (f177 n x1) fun r3 =>
   let x4:=r3
   br (!(F4 .f32 x4 x2)) (
    some x1) (
    br (flt .f32 x1 0) (
     some (He .f32 x2)) (
     some x2))
def I8:By (Nat × Nat) where
 pk:=fun (a0,a1)=>[.flt a0,.flt a1]
 up:=fun ls=>match ls with
  | [.flt a0,.flt a1]=>some (a0,a1)
  | _=>none
def f163.P:List Ae:=[Cx,Cx]
def f163.A:Aa (Nat):=.one ⟨[Fh],[none,none]⟩ BE
def f163.F (n:Nat) (v:Nat × Nat):=f163 n v.1 v.2
def f163.O (n:Nat):BJ:=AK (E:=E) [f177.w] [] n
theorem f163.ok:Bh 163 f163.P I8 f163.A f163.F:=Bi gv f163.O
def f163.w:A7 E:=BQ 163 f163.P I8 f163.A f163.F f163.ok
def f135.l0 (n:Nat):Nat→Nat→List T→Nat→Nat→List T→Nat→List T→Int→Int→Option (Nat × List T)
 | 0,_,_,_,_,_,_,_,_,_=>none
 | m+1,n1,l2,x3,n4,l5,n6,l7,i8,i9 =>
   br (decide (i9<i8)) (
    gd ((decide ((0≤i9)∧(i9<(n6:Int))))&&(AI [(.flt .f32)] l7 (Int.toNat i9))) (
    let x10:=(BR l7 (Int.toNat i9))
    bd (f163 n x10 x3) fun r11 =>
    let x12:=r11
    gd (Nat.ble (n4+1) 2147483648) (
    let n13:=(n4+1)
    let l14:=(l5++(AF (reps 1 [(T.flt .f32 0)]) 0 [(T.flt .f32 x12)]))
    f135.l0 n m n1 l2 x3 n13 l14 n6 l7 i8 (IntKind.i64.wrap (i9+(1:Int)))))) (
    some (n4,l5))
def f135:Nat→Nat→List T→Nat→Option (Nat × List T × Bool)
 | 0,_,_,_=>none
 | n+1,n1,l2,x3 =>
   bd (f91 n n1 l2) fun r4 =>
   let b5:=r4
   br (!b5) (
    some (0,[],false)) (
    bd (f135.l0 n n n1 l2 x3 0 [] n1 l2 (n1:Int) (0:Int)) fun r6 =>
    let n7:=r6.1
    let l8:=r6.2
    some (n7,l8,true))
def RI:By (Nat × List T × Bool) where
 pk:=fun (a0,a1,a2)=>[.lst a0 a1,.bool a2]
 up:=fun ls=>match ls with
  | [.lst a0 a1,.bool a2]=>some (a0,a1,a2)
  | _=>none
def f135.l0.P:AS:=⟨[(0,DY),(1,Px),(6,A3),(12,DY),(13,AU),(14,AU)],0⟩
def f135.l0.A:D7 (Nat × List T):=.one (.exit 0) ⟨[(6,A3)],0⟩ Bg
def f135.l0.F (n m:Nat) (v:gG):=let (a,b,c,d,e,f,g,h,i):=v;f135.l0 n m a b c d e f g h i
def f135.l0.W (n:Nat):ER:=.of 80 f135.l0.P Jq f135.l0.A (f135.l0.F n n)
def f135.P:List Ae:=[DT,Cx]
def f135.A:Aa (Nat × List T × Bool):=.one ⟨[DZ,CN],[none,none]⟩ RI
def f135.F (n:Nat) (v:Nat × List T × Nat):=f135 n v.1 v.2.1 v.2.2
def f135.O (n:Nat):BJ:=AK (E:=E) [f91.w,f163.w] [f135.l0.W n] n
theorem f135.l0.ok:∀ n,E0 135 aD 0 n (f135.O n):=FC f135.l0.P Jq f135.l0.A f135.l0.F
theorem f135.ok:Bh 135 f135.P KK f135.A f135.F:=Bi aD f135.O [Ac aD 0] (fun n=>(.cons (f135.l0.ok n) .nil))
def f135.w:A7 E:=BQ 135 f135.P KK f135.A f135.F f135.ok
def f136:Nat→Nat→Option (Nat)
 | 0,_=>none
 | n+1,x1 =>
   br (Ly .f32 x1 1065353216) (
    some 1065353216) (
    br (VQ .f32 x1 3212836864) (
     some 3212836864) (
     some (AM .f32 x1 (BW .f32 1069547520 (AM .f32 1056964608 (AM .f32 x1 x1))))))
def f136.P:List Ae:=[Cx]
def f136.A:Aa (Nat):=.one ⟨[Fh],[none]⟩ BE
def f136.F (n:Nat) (v:Nat):=f136 n v
def f136.O (n:Nat):BJ:=AK (E:=E) [] [] n
theorem f136.ok:Bh 136 f136.P BE f136.A f136.F:=Bi fO f136.O
def f136.w:A7 E:=BQ 136 f136.P BE f136.A f136.F f136.ok
def f108.l1 (n:Nat):Nat→Nat→List T→Nat→List T→Nat→List T→Int→Int→Option (Nat × List T)
 | 0,_,_,_,_,_,_,_,_=>none
 | m+1,n1,l2,n3,l4,n5,l6,i7,i8 =>
   br (decide (i8<i7)) (
    gd ((decide ((0≤i8)∧(i8<(n5:Int))))&&(AI [(.flt .f32)] l6 (Int.toNat i8))) (
    let x9:=(BR l6 (Int.toNat i8))
    bd (f136 n x9) fun r10 =>
    let x11:=r10
    gd (Nat.ble (n3+1) 2147483648) (
    let n12:=(n3+1)
    let l13:=(l4++(AF (reps 1 [(T.flt .f32 0)]) 0 [(T.flt .f32 x11)]))
    f108.l1 n m n1 l2 n12 l13 n5 l6 i7 (IntKind.i64.wrap (i8+(1:Int)))))) (
    some (n3,l4))
def f164.l0 (n:Nat):Nat→Nat→List T→Nat→Nat→List T→Int→Int→Option (Nat)
 | 0,_,_,_,_,_,_,_=>none
 | m+1,n1,l2,x3,n4,l5,i6,i7 =>
   br (decide (i7<i6)) (
    gd ((decide ((0≤i7)∧(i7<(n4:Int))))&&(AI [(.flt .f32)] l5 (Int.toNat i7))) (
    let x8:=(BR l5 (Int.toNat i7))
    bd (f177 n x8) fun r9 =>
    let x10:=r9
    br (F4 .f32 x10 x3) (
     f164.l0 n m n1 l2 x10 n4 l5 i6 (IntKind.i64.wrap (i7+(1:Int)))) (
     f164.l0 n m n1 l2 x3 n4 l5 i6 (IntKind.i64.wrap (i7+(1:Int)))))) (
    some x3)
def f164:Nat→Nat→List T→Option (Nat)
 | 0,_,_=>none
 | n+1,n1,l2 =>
   bd (f164.l0 n n n1 l2 0 n1 l2 (n1:Int) (0:Int)) fun r3 =>
   let x4:=r3
   some x4
def Uq:By (iH) where
 pk:=fun (a0,a1,a2,a3,a4,a5,a6)=>[.lst a0 a1,.flt a2,.lst a3 a4,.int a5,.int a6]
 up:=fun ls=>match ls with
  | [.lst a0 a1,.flt a2,.lst a3 a4,.int a5,.int a6]=>some (a0,a1,a2,a3,a4,a5,a6)
  | _=>none
def f164.l0.P:AS:=⟨[(0,DY),(3,Px),(7,DY),(8,AU),(9,AU)],0⟩
def f164.l0.A:D7 (Nat):=.one (.exit 0) ⟨[(3,Px)],0⟩ BE
def f164.l0.F (n m:Nat) (v:iH):=let (a,b,c,d,e,f,g):=v;f164.l0 n m a b c d e f g
def f164.l0.W (n:Nat):ER:=.of 48 f164.l0.P Uq f164.l0.A (f164.l0.F n n)
def f164.P:List Ae:=[DT]
def f164.A:Aa (Nat):=.one ⟨[Fh],[none]⟩ BE
def f164.F (n:Nat) (v:Nat × List T):=f164 n v.1 v.2
def f164.O (n:Nat):BJ:=AK (E:=E) [f177.w] [f164.l0.W n] n
theorem f164.l0.ok:∀ n,E0 164 aI 0 n (f164.O n):=FC f164.l0.P Uq f164.l0.A f164.l0.F
theorem f164.ok:Bh 164 f164.P Bg f164.A f164.F:=Bi aI f164.O [Ac aI 0] (fun n=>(.cons (f164.l0.ok n) .nil))
def f164.w:A7 E:=BQ 164 f164.P Bg f164.A f164.F f164.ok
def f137.l0 (n:Nat):Nat→Nat→List T→Nat→Nat→Nat→Nat→List T→Nat→Nat→Nat→Nat→List T→Nat→List T→Nat→List T→Int→Int→Option (ek)
 | 0,_,_,_,_,_,_,_,_,_,_,_,_,_,_,_,_,_,_=>none
 | m+1,n1,l2,x3,x4,x5,n6,l7,x8,x9,x10,n11,l12,n13,l14,n15,l16,i17,i18 =>
   br (decide (i18<i17)) (
    gd ((decide ((0≤i18)∧(i18<(n15:Int))))&&(AI [(.flt .f32)] l16 (Int.toNat i18))) (
    let x19:=(BR l16 (Int.toNat i18))
    bd (f79 n n6 l7) fun r20 =>
    let n21:=r20.1
    let l22:=r20.2
    gd (Nat.ble (n21+1) 2147483648) (
    let n23:=(n21+1)
    let l24:=(l22++(AF (reps 1 [(T.flt .f32 0)]) 0 [(T.flt .f32 x19)]))
    bd (f164 n n23 l24) fun r25 =>
    let x26:=r25
    br (F4 .f32 x26 x3) (
     let x27:=(fdiv .f32 x3 x26)
     let x28:=(Au .f32 x5 x4)
     br (flt .f32 x27 x28) (
      gd (decide ((0≤(1:Int))∧(((1:Int)≤(n23:Int))∧((n23:Int)≤(n23:Int))))) (
      let n29:=(n23 - 1)
      let l30:=(List.take (n23 - 1) (List.drop 1 l24))
      gd ((decide ((0≤(0:Int))∧((0:Int)<(n23:Int))))&&(AI [(.flt .f32)] l24 0)) (
      bd (f163 n (AM .f32 (BR l24 0) x27) x3) fun r31 =>
      let x32:=r31
      gd (Nat.ble (n13+1) 2147483648) (
      let n33:=(n13+1)
      let l34:=(l14++(AF (reps 1 [(T.flt .f32 0)]) 0 [(T.flt .f32 x32)]))
      f137.l0 n m n1 l2 x3 x4 x27 n29 l30 x8 x9 x10 n11 l12 n33 l34 n15 l16 i17 (IntKind.i64.wrap (i18+(1:Int))))))) (
      br (TG .f32 x28 x28) (
       gd (decide ((0≤(1:Int))∧(((1:Int)≤(n23:Int))∧((n23:Int)≤(n23:Int))))) (
       let n35:=(n23 - 1)
       let l36:=(List.take (n23 - 1) (List.drop 1 l24))
       gd ((decide ((0≤(0:Int))∧((0:Int)<(n23:Int))))&&(AI [(.flt .f32)] l24 0)) (
       bd (f163 n (AM .f32 (BR l24 0) x27) x3) fun r37 =>
       let x38:=r37
       gd (Nat.ble (n13+1) 2147483648) (
       let n39:=(n13+1)
       let l40:=(l14++(AF (reps 1 [(T.flt .f32 0)]) 0 [(T.flt .f32 x38)]))
       f137.l0 n m n1 l2 x3 x4 x27 n35 l36 x8 x9 x10 n11 l12 n39 l40 n15 l16 i17 (IntKind.i64.wrap (i18+(1:Int))))))) (
       gd (decide ((0≤(1:Int))∧(((1:Int)≤(n23:Int))∧((n23:Int)≤(n23:Int))))) (
       let n41:=(n23 - 1)
       let l42:=(List.take (n23 - 1) (List.drop 1 l24))
       gd ((decide ((0≤(0:Int))∧((0:Int)<(n23:Int))))&&(AI [(.flt .f32)] l24 0)) (
       bd (f163 n (AM .f32 (BR l24 0) x28) x3) fun r43 =>
       let x44:=r43
       gd (Nat.ble (n13+1) 2147483648) (
       let n45:=(n13+1)
       let l46:=(l14++(AF (reps 1 [(T.flt .f32 0)]) 0 [(T.flt .f32 x44)]))
       f137.l0 n m n1 l2 x3 x4 x28 n41 l42 x8 x9 x10 n11 l12 n45 l46 n15 l16 i17 (IntKind.i64.wrap (i18+(1:Int))))))))) (
     let x47:=(Au .f32 x5 x4)
     br (flt .f32 1065353216 x47) (
      gd (decide ((0≤(1:Int))∧(((1:Int)≤(n23:Int))∧((n23:Int)≤(n23:Int))))) (
      let n48:=(n23 - 1)
      let l49:=(List.take (n23 - 1) (List.drop 1 l24))
      gd ((decide ((0≤(0:Int))∧((0:Int)<(n23:Int))))&&(AI [(.flt .f32)] l24 0)) (
      bd (f163 n (AM .f32 (BR l24 0) 1065353216) x3) fun r50 =>
      let x51:=r50
      gd (Nat.ble (n13+1) 2147483648) (
      let n52:=(n13+1)
      let l53:=(l14++(AF (reps 1 [(T.flt .f32 0)]) 0 [(T.flt .f32 x51)]))
      f137.l0 n m n1 l2 x3 x4 1065353216 n48 l49 x8 x9 x10 n11 l12 n52 l53 n15 l16 i17 (IntKind.i64.wrap (i18+(1:Int))))))) (
      br (TG .f32 x47 x47) (
       gd (decide ((0≤(1:Int))∧(((1:Int)≤(n23:Int))∧((n23:Int)≤(n23:Int))))) (
       let n54:=(n23 - 1)
       let l55:=(List.take (n23 - 1) (List.drop 1 l24))
       gd ((decide ((0≤(0:Int))∧((0:Int)<(n23:Int))))&&(AI [(.flt .f32)] l24 0)) (
       bd (f163 n (AM .f32 (BR l24 0) 1065353216) x3) fun r56 =>
       let x57:=r56
       gd (Nat.ble (n13+1) 2147483648) (
       let n58:=(n13+1)
       let l59:=(l14++(AF (reps 1 [(T.flt .f32 0)]) 0 [(T.flt .f32 x57)]))
       f137.l0 n m n1 l2 x3 x4 1065353216 n54 l55 x8 x9 x10 n11 l12 n58 l59 n15 l16 i17 (IntKind.i64.wrap (i18+(1:Int))))))) (
       gd (decide ((0≤(1:Int))∧(((1:Int)≤(n23:Int))∧((n23:Int)≤(n23:Int))))) (
       let n60:=(n23 - 1)
       let l61:=(List.take (n23 - 1) (List.drop 1 l24))
       gd ((decide ((0≤(0:Int))∧((0:Int)<(n23:Int))))&&(AI [(.flt .f32)] l24 0)) (
       bd (f163 n (AM .f32 (BR l24 0) x47) x3) fun r62 =>
       let x63:=r62
       gd (Nat.ble (n13+1) 2147483648) (
       let n64:=(n13+1)
       let l65:=(l14++(AF (reps 1 [(T.flt .f32 0)]) 0 [(T.flt .f32 x63)]))
       f137.l0 n m n1 l2 x3 x4 x47 n60 l61 x8 x9 x10 n11 l12 n64 l65 n15 l16 i17 (IntKind.i64.wrap (i18+(1:Int)))))))))))) (
    some (x3,x4,x5,n6,l7,x8,x9,x10,n11,l12,n13,l14))
termination_by structural x=>x
def f137:Nat→Nat→Nat→Nat→Nat→List T→Nat→List T→Option (ZU)
 | 0,_,_,_,_,_,_,_=>none
 | n+1,x1,x2,x3,n4,l5,n6,l7 =>
   bd (f145 n x1) fun r8 =>
   let b9:=r8
   br (!b9) (
    some (0,[],0,0,0,0,[],false)) (
    br (decide ((n4:Int)>(64:Int))) (
     some (0,[],0,0,0,0,[],false)) (
     bd (f91 n n6 l7) fun r10 =>
     let b11:=r10
     br (!b11) (
      some (0,[],0,0,0,0,[],false)) (
      bd (f79 n n4 l5) fun r12 =>
      let n13:=r12.1
      let l14:=r12.2
      bd (f137.l0 n n n6 l7 x1 x2 x3 n13 l14 0 0 0 0 [] 0 [] n6 l7 (n6:Int) (0:Int)) fun r15 =>
      let x16:=r15.1
      let x17:=r15.2.1
      let x18:=r15.2.2.1
      let n19:=r15.2.2.2.1
      let l20:=r15.2.2.2.2.1
      let n26:=r15.2.2.2.2.2.2.2.2.2.2.1
      let l27:=r15.2.2.2.2.2.2.2.2.2.2.2
      bd (f79 n n19 l20) fun r28 =>
      let n29:=r28.1
      let l30:=r28.2
      some (n26,l27,x16,x17,x18,n29,l30,true))))
def L6:By (er) where
 pk:=fun (a0,a1,a2,a3,a4,a5,a6)=>[.flt a0,.flt a1,.flt a2,.lst a3 a4,.lst a5 a6]
 up:=fun ls=>match ls with
  | [.flt a0,.flt a1,.flt a2,.lst a3 a4,.lst a5 a6]=>some (a0,a1,a2,a3,a4,a5,a6)
  | _=>none
def RP:By (ZU) where
 pk:=fun (a0,a1,a2,a3,a4,a5,a6,a7)=>[.lst a0 a1,.flt a2,.flt a3,.flt a4,.lst a5 a6,.bool a7]
 up:=fun ls=>match ls with
  | [.lst a0 a1,.flt a2,.flt a3,.flt a4,.lst a5 a6,.bool a7]=>some (a0,a1,a2,a3,a4,a5,a6,a7)
  | _=>none
def Hy:By (nL) where
 pk:=fun (a0,a1,a2,a3,a4,a5,a6,a7,a8,a9,a10,a11,a12,a13,a14,a15,a16,a17)=>[.lst a0 a1,.flt a2,.flt a3,.flt a4,.lst a5 a6,.flt a7,.flt a8,.flt a9,.lst a10 a11,.lst a12 a13,.lst a14 a15,.int a16,.int a17]
 up:=fun ls=>match ls with
  | [.lst a0 a1,.flt a2,.flt a3,.flt a4,.lst a5 a6,.flt a7,.flt a8,.flt a9,.lst a10 a11,.lst a12 a13,.lst a14 a15,.int a16,.int a17]=>some (a0,a1,a2,a3,a4,a5,a6,a7,a8,a9,a10,a11,a12,a13,a14,a15,a16,a17)
  | _=>none
def SW:By (ek) where
 pk:=fun (a0,a1,a2,a3,a4,a5,a6,a7,a8,a9,a10,a11)=>[.flt a0,.flt a1,.flt a2,.lst a3 a4,.flt a5,.flt a6,.flt a7,.lst a8 a9,.lst a10 a11]
 up:=fun ls=>match ls with
  | [.flt a0,.flt a1,.flt a2,.lst a3 a4,.flt a5,.flt a6,.flt a7,.lst a8 a9,.lst a10 a11]=>some (a0,a1,a2,a3,a4,a5,a6,a7,a8,a9,a10,a11)
  | _=>none
def f137.l0.P:AS:=⟨[(1,DY),(2,XM),(5,Yb),(7,A3),(34,DY),(35,AU),(36,AU)],0⟩
def f137.l0.A:D7 (ek):=.one (.exit 0) ⟨[(2,XM),(5,Yb),(7,A3)],0⟩ SW
def f137.l0.F (n m:Nat) (v:nL):=let (a,b,c,d,e,f,g,h,i,j,k,l,o,p,q,r,s,t):=v;f137.l0 n m a b c d e f g h i j k l o p q r s t
def f137.l0.W (n:Nat):ER:=.of 96 f137.l0.P Hy f137.l0.A (f137.l0.F n n)
def f137.P:List Ae:=[⟨.val,⟨true,[.leaf,.leaf,.leaf,.sl .shr [.leaf]],[.flt .f32 0,.flt .f32 0,.flt .f32 0,.lst 0 []]⟩⟩,DT]
def f137.A:Aa (ZU):=.one ⟨[DZ,⟨true,[.leaf,.leaf,.leaf,.sl .own [.leaf]],[.flt .f32 0,.flt .f32 0,.flt .f32 0,.lst 0 []]⟩,CN],[none,none]⟩ RP
def f137.F (n:Nat) (v:er):=let (a,b,c,d,e,f,g):=v;f137 n a b c d e f g
def f137.O (n:Nat):BJ:=AK (E:=E) [f145.w,f91.w,f79.w,f163.w,f164.w] [f137.l0.W n] n
theorem f137.l0.ok:∀ n,E0 137 Y7 0 n (f137.O n):=FC f137.l0.P Hy f137.l0.A f137.l0.F
theorem f137.ok:Bh 137 f137.P L6 f137.A f137.F:=Bi Y7 f137.O [Ac Y7 0] (fun n=>(.cons (f137.l0.ok n) .nil))
def f137.w:A7 E:=BQ 137 f137.P L6 f137.A f137.F f137.ok
def f108:Nat→Int→Int→Nat→List T→Nat→List T→Nat→List T→Option (Cf)
 | 0,_,_,_,_,_,_,_,_=>none
 | n+1,i1,i2,n3,l4,n5,l6,n7,l8 =>
   br (i1==(0:Int)) (
    gd ((decide ((0≤(0:Int))∧((0:Int)<(n3:Int))))&&(AI [(.flt .f32)] l4 0)) (
    bd (f130 n n7 l8 (BR l4 0)) fun r9 =>
    let n10:=r9.1
    let l11:=r9.2
    some (n10,l11,0,[]))) (
    br (i1==(1:Int)) (
     gd ((decide ((0≤(0:Int))∧((0:Int)<(n3:Int))))&&(AI [(.flt .f32)] l4 0)) (
     gd ((decide ((0≤(1:Int))∧((1:Int)<(n3:Int))))&&(AI [(.flt .f32)] l4 1)) (
     gd ((decide ((0≤(2:Int))∧((2:Int)<(n3:Int))))&&(AI [(.flt .f32)] l4 2)) (
     gd ((decide ((0≤(3:Int))∧((3:Int)<(n3:Int))))&&(AI [(.flt .f32)] l4 3)) (
     gd ((decide ((0≤(4:Int))∧((4:Int)<(n3:Int))))&&(AI [(.flt .f32)] l4 4)) (
     let x12:=(BR l4 0)
     let x13:=(BR l4 1)
     let x14:=(BR l4 2)
     let x15:=(BR l4 3)
     let x16:=(BR l4 4)
     gd ((decide ((0≤(0:Int))∧((0:Int)<(n5:Int))))&&(AI [(.flt .f32)] l6 0)) (
     gd ((decide ((0≤(1:Int))∧((1:Int)<(n5:Int))))&&(AI [(.flt .f32)] l6 1)) (
     bd (f131 n x12 x13 x14 x15 x16 (1:Int) true (BR l6 0) (BR l6 1) 0 0 n7 l8) fun r17 =>
     let n18:=r17.1
     let l19:=r17.2.1
     let x20:=r17.2.2.1
     let x21:=r17.2.2.2.1
     some (n18,l19,2,(AF (AF (reps 2 [(T.flt .f32 0)]) 0 [(T.flt .f32 x20)]) 1 [(T.flt .f32 x21)])))))))))) (
     br (i1==(2:Int)) (
      bd (f79 n n5 l6) fun r24 =>
      let n25:=r24.1
      let l26:=r24.2
      bd (f108.l0 n n n7 l8 n3 l4 n25 l26 0 [] n7 l8 (n7:Int) (0:Int)) fun r27 =>
      let n28:=r27.1
      let l29:=r27.2.1
      let n30:=r27.2.2.1
      let l31:=r27.2.2.2
      some (n30,l31,n28,l29)) (
      br (i1==(3:Int)) (
       gd ((decide ((0≤(0:Int))∧((0:Int)<(n3:Int))))&&(AI [(.flt .f32)] l4 0)) (
       gd ((decide ((0≤(1:Int))∧((1:Int)<(n3:Int))))&&(AI [(.flt .f32)] l4 1)) (
       gd ((decide ((0≤(0:Int))∧((0:Int)<(n5:Int))))&&(AI [(.flt .f32)] l6 0)) (
       gd ((decide ((0≤(2:Int))∧((2:Int)<(n3:Int))))&&(AI [(.flt .f32)] l4 2)) (
       gd ((decide ((0≤(3:Int))∧((3:Int)<(n3:Int))))&&(AI [(.flt .f32)] l4 3)) (
       let x32:=(BR l4 0)
       let x33:=(BR l4 1)
       let x34:=(BR l6 0)
       let x35:=(BR l4 2)
       let x36:=(BR l4 3)
       bd (f134 n x32 x33 x34 x35 x36 n7 l8) fun r37 =>
       let n38:=r37.1
       let l39:=r37.2.1
       let x42:=r37.2.2.2.2.1
       some (n38,l39,1,(AF (reps 1 [(T.flt .f32 0)]) 0 [(T.flt .f32 x42)])))))))) (
       br (i1==(4:Int)) (
        gd ((decide ((0≤(0:Int))∧((0:Int)<(n3:Int))))&&(AI [(.flt .f32)] l4 0)) (
        bd (f135 n n7 l8 (BR l4 0)) fun r46 =>
        let n47:=r46.1
        let l48:=r46.2.1
        some (n47,l48,0,[]))) (
        br (i1==(5:Int)) (
         bd (f108.l1 n n n7 l8 0 [] n7 l8 (n7:Int) (0:Int)) fun r50 =>
         let n51:=r50.1
         let l52:=r50.2
         some (n51,l52,0,[])) (
         gd ((decide ((0≤(0:Int))∧((0:Int)<(n3:Int))))&&(AI [(.flt .f32)] l4 0)) (
         gd ((decide ((0≤(1:Int))∧((1:Int)<(n3:Int))))&&(AI [(.flt .f32)] l4 1)) (
         gd ((decide ((0≤(0:Int))∧((0:Int)<(n5:Int))))&&(AI [(.flt .f32)] l6 0)) (
         gd (decide ((0≤(1:Int))∧(((1:Int)≤(n5:Int))∧((n5:Int)≤(n5:Int))))) (
         bd (f137 n (BR l4 0) (BR l4 1) (BR l6 0) (n5 - 1) (List.take (n5 - 1) (List.drop 1 l6)) n7 l8) fun r53 =>
         let n54:=r53.1
         let l55:=r53.2.1
         let x58:=r53.2.2.2.2.1
         let n59:=r53.2.2.2.2.2.1
         let l60:=r53.2.2.2.2.2.2.1
         gd (Nat.ble (1+n59) 2147483648) (
         some (n54,l55,(1+n59),((AF (reps 1 [(T.flt .f32 0)]) 0 [(T.flt .f32 x58)])++l60)))))))))))))
def LS:By (fw) where
 pk:=fun (a0,a1,a2,a3,a4,a5,a6,a7)=>[.int a0,.int a1,.lst a2 a3,.lst a4 a5,.lst a6 a7]
 up:=fun ls=>match ls with
  | [.int a0,.int a1,.lst a2 a3,.lst a4 a5,.lst a6 a7]=>some (a0,a1,a2,a3,a4,a5,a6,a7)
  | _=>none
def FP:By (cK) where
 pk:=fun (a0,a1,a2,a3,a4,a5,a6,a7,a8,a9,a10,a11)=>[.lst a0 a1,.lst a2 a3,.lst a4 a5,.lst a6 a7,.lst a8 a9,.int a10,.int a11]
 up:=fun ls=>match ls with
  | [.lst a0 a1,.lst a2 a3,.lst a4 a5,.lst a6 a7,.lst a8 a9,.int a10,.int a11]=>some (a0,a1,a2,a3,a4,a5,a6,a7,a8,a9,a10,a11)
  | _=>none
def f108.l0.P:AS:=⟨[(2,DY),(8,DY),(12,A3),(13,A3),(80,DY),(81,AU),(82,AU)],0⟩
def f108.l0.A:D7 (Cf):=.one (.exit 1) ⟨[(12,A3),(13,A3)],0⟩ Bl
def f108.l0.F (n m:Nat) (v:cK):=let (a,b,c,d,e,f,g,h,i,j,k,l):=v;f108.l0 n m a b c d e f g h i j k l
def f108.l0.W (n:Nat):ER:=.of 208 f108.l0.P FP f108.l0.A (f108.l0.F n n)
def f108.l1.P:AS:=⟨[(2,DY),(22,A3),(156,DY),(157,AU),(158,AU)],0⟩
def f108.l1.A:D7 (Nat × List T):=.one (.exit 3) ⟨[(22,A3)],0⟩ Bg
def f108.l1.F (n m:Nat) (v:Tq):=let (a,b,c,d,e,f,g,h):=v;f108.l1 n m a b c d e f g h
def f108.l1.W (n:Nat):ER:=.of 480 f108.l1.P Dn f108.l1.A (f108.l1.F n n)
def f108.P:List Ae:=[Zv,DT,DT]
def f108.A:Aa (Cf):=.one ⟨[DZ,DZ],[none,none,none]⟩ Bl
def f108.F (n:Nat) (v:fw):=let (a,b,c,d,e,f,g,h):=v;f108 n a b c d e f g h
def f108.O (n:Nat):BJ:=AK (E:=E) [f79.w,f130.w,f133.w,f131.w,f132.w,f134.w,f135.w,f136.w,f137.w] [f108.l0.W n,f108.l1.W n] n
theorem f108.l0.ok:∀ n,E0 108 Vk 0 n (f108.O n):=FC f108.l0.P FP f108.l0.A f108.l0.F
theorem f108.l1.ok:∀ n,E0 108 Vk 1 n (f108.O n):=FC f108.l1.P Dn f108.l1.A f108.l1.F
theorem f108.ok:Bh 108 f108.P LS f108.A f108.F:=Bi Vk f108.O [Ac Vk 0,Ac Vk 1] (fun n=>(.cons (f108.l0.ok n) (.cons (f108.l1.ok n) .nil)))
def f108.w:A7 E:=BQ 108 f108.P LS f108.A f108.F f108.ok
def f72.l0 (n:Nat):Nat→Nat→List T→Nat→List T→Nat→List T→Nat→List T→Nat→List T→Int→Int→Option (Cf)
 | 0,_,_,_,_,_,_,_,_,_,_,_,_=>none
 | m+1,n1,l2,n3,l4,n5,l6,n7,l8,n9,l10,i11,i12 =>
   br (decide (i12<i11)) (
    gd ((decide ((0≤i12)∧(i12<(n9:Int))))&&(AI [(.int .i64),(.int .i64),.lst] l10 (((Int.toNat i12) * 3)+0))) (
    let i13:=(Ed l10 (((Int.toNat i12) * 3)+0))
    let i14:=(Ed l10 ((((Int.toNat i12) * 3)+0)+1))
    let n15:=(GZ l10 (((((Int.toNat i12) * 3)+0)+1)+1))
    let l16:=(HD l10 (((((Int.toNat i12) * 3)+0)+1)+1))
    gd ((decide ((0≤i12)∧(i12<(n3:Int))))&&(AI [.lst] l4 (Int.toNat i12))) (
    bd (f108 n i13 i14 n15 l16 (GZ l4 (Int.toNat i12)) (HD l4 (Int.toNat i12)) n5 l6) fun r17 =>
    let n18:=r17.1
    let l19:=r17.2.1
    let n20:=r17.2.2.1
    let l21:=r17.2.2.2
    gd (Nat.ble (n7+1) 2147483648) (
    let n22:=(n7+1)
    let l23:=(l8++(AF (reps 1 [(T.lst 0 [])]) 0 [(T.lst n20 l21)]))
    f72.l0 n m n1 l2 n3 l4 n18 l19 n22 l23 n9 l10 i11 (IntKind.i64.wrap (i12+(1:Int))))))) (
    some (n5,l6,n7,l8))
termination_by structural x=>x
def f72:Nat→Nat→List T→Nat→List T→Nat→List T→Option (Cf)
 | 0,_,_,_,_,_,_=>none
 | n+1,n1,l2,n3,l4,n5,l6 =>
   bd (f79 n n5 l6) fun r7 =>
   let n8:=r7.1
   let l9:=r7.2
   bd (f72.l0 n n n1 l2 n3 l4 n8 l9 0 [] n1 l2 (n1:Int) (0:Int)) fun r10 =>
   let n11:=r10.1
   let l12:=r10.2.1
   let n13:=r10.2.2.1
   let l14:=r10.2.2.2
   some (n11,l12,n13,l14)
def SB:By (fR) where
 pk:=fun (a0,a1,a2,a3,a4,a5)=>[.lst a0 a1,.lst a2 a3,.lst a4 a5]
 up:=fun ls=>match ls with
  | [.lst a0 a1,.lst a2 a3,.lst a4 a5]=>some (a0,a1,a2,a3,a4,a5)
  | _=>none
def f72.l0.P:AS:=⟨[(0,Hu),(1,.val false [.sl .shr [.sl .shr [.leaf]]] [.lst 0 []] [] 0),(8,A3),(9,VN),(16,Hu),(17,AU),(18,AU)],0⟩
def f72.l0.A:D7 (Cf):=.one (.exit 0) ⟨[(8,A3),(9,VN)],0⟩ Bl
def f72.l0.F (n m:Nat) (v:cK):=let (a,b,c,d,e,f,g,h,i,j,k,l):=v;f72.l0 n m a b c d e f g h i j k l
def f72.l0.W (n:Nat):ER:=.of 64 f72.l0.P FP f72.l0.A (f72.l0.F n n)
def f72.P:List Ae:=[Uh,⟨.val,⟨false,[.sl .shr [.sl .shr [.leaf]]],[.lst 0 []]⟩⟩,DT]
def f72.A:Aa (Cf):=.one ⟨[DZ,bX],[none,none,none]⟩ Bl
def f72.F (n:Nat) (v:fR):=let (a,b,c,d,e,f):=v;f72 n a b c d e f
def f72.O (n:Nat):BJ:=AK (E:=E) [f79.w,f108.w] [f72.l0.W n] n
theorem f72.l0.ok:∀ n,E0 72 jI 0 n (f72.O n):=FC f72.l0.P FP f72.l0.A f72.l0.F
theorem f72.ok:Bh 72 f72.P SB f72.A f72.F:=Bi jI f72.O [Ac jI 0] (fun n=>(.cons (f72.l0.ok n) .nil))
def f72.w:A7 E:=BQ 72 f72.P SB f72.A f72.F f72.ok
def f34:Nat→Nat→List T→Nat→List T→Int→Int→Option (Nat × List T)
 | 0,_,_,_,_,_,_=>none
 | n+1,n1,l2,n3,l4,i5,i6 =>
   gd ((decide ((0≤i5)∧(i5<(n3:Int))))&&(AI [.lst,(.int .i64),(.flt .f32),.bool,.bool] l4 (((Int.toNat i5) * 5)+0))) (
   let n7:=(GZ l4 (((Int.toNat i5) * 5)+0))
   let l8:=(HD l4 (((Int.toNat i5) * 5)+0))
   bd (f73 n n7 l8) fun r9 =>
   let n10:=r9.1
   let l11:=r9.2
   bd (f57 n n1 l2 n3 l4 i5 (0:Int) i6) fun r12 =>
   let n13:=r12.1
   let l14:=r12.2
   bd (f72 n n7 l8 n10 l11 n13 l14) fun r15 =>
   let n16:=r15.1
   let l17:=r15.2.1
   some (n16,l17))
def f34.P:List Ae:=[P8,CV,CV]
def f34.A:Aa (Nat × List T):=.one ⟨[DZ],[none,none,none]⟩ Bg
def f34.F (n:Nat) (v:NC):=let (a,b,c,d,e,f):=v;f34 n a b c d e f
def f34.O (n:Nat):BJ:=AK (E:=E) [f73.w,f57.w,f72.w] [] n
theorem f34.ok:Bh 34 f34.P Cc f34.A f34.F:=Bi mU f34.O
def f34.w:A7 E:=BQ 34 f34.P Cc f34.A f34.F f34.ok
def f21.l0 (n:Nat):Nat→Int→Nat→List T→Nat→List T→Nat→List T→Nat→List T→Int→Int→Option (Int × Nat × List T)
 | 0,_,_,_,_,_,_,_,_,_,_,_=>none
 | m+1,i1,n2,l3,n4,l5,n6,l7,n8,l9,i10,i11 =>
   br (decide (i11<i10)) (
    gd ((decide ((0≤i11)∧(i11<(n8:Int))))&&(AI [.lst,(.int .i64),(.flt .f32),.bool,.bool] l9 (((Int.toNat i11) * 5)+0))) (
    let n12:=(GZ l9 (((Int.toNat i11) * 5)+0))
    let l13:=(HD l9 (((Int.toNat i11) * 5)+0))
    let i14:=(Ed l9 ((((Int.toNat i11) * 5)+0)+1))
    let x15:=(BR l9 (((((Int.toNat i11) * 5)+0)+1)+1))
    let b16:=(KA l9 ((((((Int.toNat i11) * 5)+0)+1)+1)+1))
    let b17:=(KA l9 (((((((Int.toNat i11) * 5)+0)+1)+1)+1)+1))
    bd (f34 n n2 l3 n4 l5 i11 i1) fun r18 =>
    let n19:=r18.1
    let l20:=r18.2
    gd (Nat.ble (n6+1) 2147483648) (
    let n21:=(n6+1)
    let l22:=(l7++(AF (reps 1 [(T.lst 0 []),(T.int .i64 (0:Int)),(T.flt .f32 0),(T.bool false),(T.bool false)]) 0 (AF (AF (AF (AF (AF [(T.lst 0 []),(T.int .i64 (0:Int)),(T.flt .f32 0),(T.bool false),(T.bool false)] 0 [(T.lst n19 l20)]) 1 [(T.int .i64 i14)]) 2 [(T.flt .f32 x15)]) 3 [(T.bool b16)]) 4 [(T.bool b17)])))
    f21.l0 n m i1 n2 l3 n4 l5 n21 l22 n8 l9 i10 (IntKind.i64.wrap (i11+(1:Int)))))) (
    some (i1,n6,l7))
def f94.l0 (n:Nat):Nat→Nat→List T→Nat→List T→Nat→List T→Nat→List T→Int→Int→Option (Cf)
 | 0,_,_,_,_,_,_,_,_,_,_=>none
 | m+1,n1,l2,n3,l4,n5,l6,n7,l8,i9,i10 =>
   br (decide (i10<i9)) (
    gd ((decide ((0≤i10)∧(i10<(n7:Int))))&&(AI [.lst,(.int .i64),(.flt .f32),.bool,.bool] l8 (((Int.toNat i10) * 5)+0))) (
    let n11:=(GZ l8 (((Int.toNat i10) * 5)+0))
    let l12:=(HD l8 (((Int.toNat i10) * 5)+0))
    let i13:=(Ed l8 ((((Int.toNat i10) * 5)+0)+1))
    let x14:=(BR l8 (((((Int.toNat i10) * 5)+0)+1)+1))
    let b15:=(KA l8 ((((((Int.toNat i10) * 5)+0)+1)+1)+1))
    let b16:=(KA l8 (((((((Int.toNat i10) * 5)+0)+1)+1)+1)+1))
    gd (Nat.ble (n3+1) 2147483648) (
    gd (Nat.ble (n5+1) 2147483648) (
    let n17:=(n3+1)
    let l18:=(l4++(AF (reps 1 [(T.bool false)]) 0 [(T.bool b15)]))
    let n19:=(n5+1)
    let l20:=(l6++(AF (reps 1 [(T.bool false)]) 0 [(T.bool b16)]))
    f94.l0 n m n1 l2 n17 l18 n19 l20 n7 l8 i9 (IntKind.i64.wrap (i10+(1:Int))))))) (
    some (n3,l4,n5,l6))
def f151.l0 (n:Nat):Nat→Nat→List T→Bool→Int→Int→Option ((Int) ⊕ (Unit))
 | 0,_,_,_,_,_=>none
 | m+1,n1,l2,b3,i4,i5 =>
   br (decide (i5<i4)) (
    gd ((decide ((0≤i5)∧(i5<(n1:Int))))&&(AI [.bool] l2 (Int.toNat i5))) (
    br (b3==(KA l2 (Int.toNat i5))) (
     some (Sum.inl i5)) (
     f151.l0 n m n1 l2 b3 i4 (IntKind.i64.wrap (i5+(1:Int)))))) (
    some (Sum.inr ()))
def f151:Nat→Nat→List T→Bool→Option (Int)
 | 0,_,_,_=>none
 | n+1,n1,l2,b3 =>
   bd (f151.l0 n n n1 l2 b3 (n1:Int) (0:Int)) fun r4 =>
   sm r4 (fun u5 =>
    let i6:=u5
    some i6) (fun u7 =>
    some (-1:Int))
def WY:By (jC) where
 pk:=fun (a0,a1,a2,a3,a4)=>[.lst a0 a1,.bool a2,.int a3,.int a4]
 up:=fun ls=>match ls with
  | [.lst a0 a1,.bool a2,.int a3,.int a4]=>some (a0,a1,a2,a3,a4)
  | _=>none
def f151.l0.P:AS:=⟨[(0,DY),(1,Jm),(7,AU),(8,AU)],0⟩
def f151.l0.A:D7 ((Int) ⊕ (Unit)):=.or (.one .ret ⟨[(4,AU)],0⟩ F9) (.one (.exit 0) ⟨[(4,.dead)],0⟩ sg)
def f151.l0.F (n m:Nat) (v:jC):=let (a,b,c,d,e):=v;f151.l0 n m a b c d e
def f151.l0.W (n:Nat):ER:=.of 32 f151.l0.P WY f151.l0.A (f151.l0.F n n)
def f151.P:List Ae:=[DT,U3]
def f151.A:Aa (Int):=.one ⟨[Ns],[none,none]⟩ F9
def f151.F (n:Nat) (v:Nat × List T × Bool):=f151 n v.1 v.2.1 v.2.2
def f151.O (n:Nat):BJ:=AK (E:=E) [] [f151.l0.W n] n
theorem f151.l0.ok:∀ n,E0 151 aY 0 n (f151.O n):=FC f151.l0.P WY f151.l0.A f151.l0.F
theorem f151.ok:Bh 151 f151.P RI f151.A f151.F:=Bi aY f151.O [Ac aY 0] (fun n=>(.cons (f151.l0.ok n) .nil))
def f151.w:A7 E:=BQ 151 f151.P RI f151.A f151.F f151.ok
def f118:Nat→Nat→List T→Bool→Option (Bool)
 | 0,_,_,_=>none
 | n+1,n1,l2,b3 =>
   bd (f151 n n1 l2 b3) fun r4 =>
   let i5:=r4
   some (decide (i5≥(0:Int)))
def f118.P:List Ae:=[DT,U3]
def f118.A:Aa (Bool):=.one ⟨[CN],[none,none]⟩ C3
def f118.F (n:Nat) (v:Nat × List T × Bool):=f118 n v.1 v.2.1 v.2.2
def f118.O (n:Nat):BJ:=AK (E:=E) [f151.w] [] n
theorem f118.ok:Bh 118 f118.P RI f118.A f118.F:=Bi gO f118.O
def f118.w:A7 E:=BQ 118 f118.P RI f118.A f118.F f118.ok
def f97.l0 (n:Nat):Nat→Nat→List T→Nat→List T→Bool→Nat→List T→Nat→List T→Int→Int→Option (Nat × List T)
 | 0,_,_,_,_,_,_,_,_,_,_,_=>none
 | m+1,n1,l2,n3,l4,b5,n6,l7,n8,l9,i10,i11 =>
   br (decide (i11<i10)) (
    gd ((decide ((0≤i11)∧(i11<(n8:Int))))&&(AI [.bool] l9 (Int.toNat i11))) (
    let b12:=(KA l9 (Int.toNat i11))
    br (!b12) (
     gd ((decide ((0≤i11)∧(i11<(n3:Int))))&&(AI [.bool] l4 (Int.toNat i11))) (
     br (KA l4 (Int.toNat i11)) (
      gd (Nat.ble (n6+1) 2147483648) (
      let n13:=(n6+1)
      let l14:=(l7++(AF (reps 1 [(T.bool false)]) 0 [(T.bool true)]))
      f97.l0 n m n1 l2 n3 l4 b5 n13 l14 n8 l9 i10 (IntKind.i64.wrap (i11+(1:Int))))) (
      gd (Nat.ble (n6+1) 2147483648) (
      let n15:=(n6+1)
      let l16:=(l7++(AF (reps 1 [(T.bool false)]) 0 [(T.bool (!b5))]))
      f97.l0 n m n1 l2 n3 l4 b5 n15 l16 n8 l9 i10 (IntKind.i64.wrap (i11+(1:Int))))))) (
     gd (Nat.ble (n6+1) 2147483648) (
     let n17:=(n6+1)
     let l18:=(l7++(AF (reps 1 [(T.bool false)]) 0 [(T.bool false)]))
     f97.l0 n m n1 l2 n3 l4 b5 n17 l18 n8 l9 i10 (IntKind.i64.wrap (i11+(1:Int))))))) (
    some (n6,l7))
def f97:Nat→Nat→List T→Nat→List T→Option (Nat × List T)
 | 0,_,_,_,_=>none
 | n+1,n1,l2,n3,l4 =>
   bd (f118 n n3 l4 true) fun r5 =>
   let b6:=r5
   bd (f97.l0 n n n1 l2 n3 l4 b6 0 [] n1 l2 (n1:Int) (0:Int)) fun r7 =>
   let n8:=r7.1
   let l9:=r7.2
   some (n8,l9)
def PV:By (iR) where
 pk:=fun (a0,a1,a2,a3,a4,a5,a6,a7,a8,a9,a10)=>[.lst a0 a1,.lst a2 a3,.bool a4,.lst a5 a6,.lst a7 a8,.int a9,.int a10]
 up:=fun ls=>match ls with
  | [.lst a0 a1,.lst a2 a3,.bool a4,.lst a5 a6,.lst a7 a8,.int a9,.int a10]=>some (a0,a1,a2,a3,a4,a5,a6,a7,a8,a9,a10)
  | _=>none
def f97.l0.P:AS:=⟨[(0,DY),(1,DY),(5,Jm),(6,A3),(11,DY),(12,AU),(13,AU)],0⟩
def f97.l0.A:D7 (Nat × List T):=.one (.exit 0) ⟨[(6,A3)],0⟩ Bg
def f97.l0.F (n m:Nat) (v:iR):=let (a,b,c,d,e,f,g,h,i,j,k):=v;f97.l0 n m a b c d e f g h i j k
def f97.l0.W (n:Nat):ER:=.of 64 f97.l0.P PV f97.l0.A (f97.l0.F n n)
def f97.P:List Ae:=[DT,DT]
def f97.A:Aa (Nat × List T):=.one ⟨[DZ],[none,none]⟩ Bg
def f97.F (n:Nat) (v:Cf):=let (a,b,c,d):=v;f97 n a b c d
def f97.O (n:Nat):BJ:=AK (E:=E) [f118.w] [f97.l0.W n] n
theorem f97.l0.ok:∀ n,E0 97 ke 0 n (f97.O n):=FC f97.l0.P PV f97.l0.A f97.l0.F
theorem f97.ok:Bh 97 f97.P Bl f97.A f97.F:=Bi ke f97.O [Ac ke 0] (fun n=>(.cons (f97.l0.ok n) .nil))
def f97.w:A7 E:=BQ 97 f97.P Bl f97.A f97.F f97.ok
def f94:Nat→Nat→List T→Option (Nat × List T)
 | 0,_,_=>none
 | n+1,n1,l2 =>
   bd (f94.l0 n n n1 l2 0 [] 0 [] n1 l2 (n1:Int) (0:Int)) fun r3 =>
   let n4:=r3.1
   let l5:=r3.2.1
   let n6:=r3.2.2.1
   let l7:=r3.2.2.2
   bd (f97 n n4 l5 n6 l7) fun r8 =>
   let n9:=r8.1
   let l10:=r8.2
   some (n9,l10)
def Q0:By (j8) where
 pk:=fun (a0,a1,a2,a3,a4,a5,a6,a7,a8,a9)=>[.lst a0 a1,.lst a2 a3,.lst a4 a5,.lst a6 a7,.int a8,.int a9]
 up:=fun ls=>match ls with
  | [.lst a0 a1,.lst a2 a3,.lst a4 a5,.lst a6 a7,.int a8,.int a9]=>some (a0,a1,a2,a3,a4,a5,a6,a7,a8,a9)
  | _=>none
def f94.l0.P:AS:=⟨[(0,Qe),(3,A3),(4,A3),(7,Qe),(8,AU),(9,AU)],0⟩
def f94.l0.A:D7 (Cf):=.one (.exit 0) ⟨[(3,A3),(4,A3)],0⟩ Bl
def f94.l0.F (n m:Nat) (v:j8):=let (a,b,c,d,e,f,g,h,i,j):=v;f94.l0 n m a b c d e f g h i j
def f94.l0.W (n:Nat):ER:=.of 48 f94.l0.P Q0 f94.l0.A (f94.l0.F n n)
def f94.P:List Ae:=[dt]
def f94.A:Aa (Nat × List T):=.one ⟨[DZ],[none]⟩ Bg
def f94.F (n:Nat) (v:Nat × List T):=f94 n v.1 v.2
def f94.O (n:Nat):BJ:=AK (E:=E) [f97.w] [f94.l0.W n] n
theorem f94.l0.ok:∀ n,E0 94 kC 0 n (f94.O n):=FC f94.l0.P Q0 f94.l0.A f94.l0.F
theorem f94.ok:Bh 94 f94.P Bg f94.A f94.F:=Bi kC f94.O [Ac kC 0] (fun n=>(.cons (f94.l0.ok n) .nil))
def f94.w:A7 E:=BQ 94 f94.P Bg f94.A f94.F f94.ok
def f146:Nat→Int→Option (Nat)
 | 0,_=>none
 | n+1,i1 =>
   br (decide (i1≥(0:Int))) (
    bd (Av n (9218868437227405312:Int)) fun r2 =>
    let x3:=r2
    some x3) (
    bd (Av n (18442240474082181120:Int)) fun r4 =>
    let x5:=r4
    some x5)
def f146.P:List Ae:=[CV]
def f146.A:Aa (Nat):=.one ⟨[WE],[none]⟩ BE
def f146.F (n:Nat) (v:Int):=f146 n v
def f146.O (n:Nat):BJ:=AK (E:=E) [x169.w] [] n
theorem f146.ok:Bh 146 f146.P F9 f146.A f146.F:=Bi ew f146.O
def f146.w:A7 E:=BQ 146 f146.P F9 f146.A f146.F f146.ok
def f116.l0 (n:Nat):Nat→Nat→Nat→Nat→Option (Nat)
 | 0,_,_,_=>none
 | m+1,x1,x2,x3 =>
   br (Ly .f64 x3 4607182418800017408) (
    let x4:=(Au .f64 4607182418800017408 (fdiv .f64 (AM .f64 x1 x2) x3))
    f116.l0 n m x1 x4 (BW .f64 x3 4607182418800017408)) (
    some x2)
def f116.l1 (n:Nat):Nat→Nat→Int→Option (Nat)
 | 0,_,_=>none
 | m+1,x1,i2 =>
   br (decide (i2<(8:Int))) (
    let x3:=(AM .f64 x1 x1)
    f116.l1 n m x3 (IntKind.i64.wrap (i2+(1:Int)))) (
    some x1)
def f116:Nat→Nat→Option (Nat)
 | 0,_=>none
 | n+1,x1 =>
   br (F4 .f64 x1 4641240890982006784) (
    bd (f146 n (1:Int)) fun r2 =>
    let x3:=r2
    some x3) (
    br (flt .f64 x1 13864612927836782592) (
     some 0) (
     let x4:=(fdiv .f64 x1 4643211215818981376)
     bd (f116.l0 n n x4 4607182418800017408 4622945017495814144) fun r5 =>
     let x6:=r5
     bd (f116.l1 n n x6 (0:Int)) fun r7 =>
     let x8:=r7
     some x8))
def dL:By (Nat × Int) where
 pk:=fun (a0,a1)=>[.flt a0,.int a1]
 up:=fun ls=>match ls with
  | [.flt a0,.int a1]=>some (a0,a1)
  | _=>none
def f116.l0.P:AS:=⟨[(3,Nq),(4,Nq),(5,Nq)],0⟩
def f116.l0.A:D7 (Nat):=.one (.exit 1) ⟨[(4,Nq)],0⟩ BE
def f116.l0.F (n m:Nat) (v:Nat × Nat × Nat):=f116.l0 n m v.1 v.2.1 v.2.2
def f116.l0.W (n:Nat):ER:=.of 112 f116.l0.P K4 f116.l0.A (f116.l0.F n n)
def f116.l1.P:AS:=⟨[(4,Nq),(6,AU)],0⟩
def f116.l1.A:D7 (Nat):=.one (.exit 3) ⟨[(4,Nq)],0⟩ BE
def f116.l1.F (n m:Nat) (v:Nat × Int):=f116.l1 n m v.1 v.2
def f116.l1.W (n:Nat):ER:=.of 176 f116.l1.P dL f116.l1.A (f116.l1.F n n)
def f116.P:List Ae:=[Yg]
def f116.A:Aa (Nat):=.one ⟨[WE],[none]⟩ BE
def f116.F (n:Nat) (v:Nat):=f116 n v
def f116.O (n:Nat):BJ:=AK (E:=E) [f146.w] [f116.l0.W n,f116.l1.W n] n
theorem f116.l0.ok:∀ n,E0 116 Vz 0 n (f116.O n):=FC f116.l0.P K4 f116.l0.A f116.l0.F
theorem f116.l1.ok:∀ n,E0 116 Vz 1 n (f116.O n):=FC f116.l1.P dL f116.l1.A f116.l1.F
theorem f116.ok:Bh 116 f116.P BE f116.A f116.F:=Bi Vz f116.O [Ac Vz 0,Ac Vz 1] (fun n=>(.cons (f116.l0.ok n) (.cons (f116.l1.ok n) .nil)))
def f116.w:A7 E:=BQ 116 f116.P BE f116.A f116.F f116.ok
def f95:Nat→Int→Option (Nat × Bool)
 | 0,_=>none
 | n+1,i1 =>
   bd (f89 n i1) fun r2 =>
   let b3:=r2
   br (!b3) (
    some (0,false)) (
    bd (f116 n (AM .f64 (FloatKind.nearest .f64 i1) 4577790371455803420)) fun r4 =>
    let x5:=r4
    bd ((Ar .f64 x5 .f32)) fun y6 =>
    some (y6,true))
def f95.P:List Ae:=[CV]
def f95.A:Aa (Nat × Bool):=.one ⟨[Fh,CN],[none]⟩ To
def f95.F (n:Nat) (v:Int):=f95 n v
def f95.O (n:Nat):BJ:=AK (E:=E) [f89.w,f116.w] [] n
theorem f95.ok:Bh 95 f95.P F9 f95.A f95.F:=Bi nA f95.O
def f95.w:A7 E:=BQ 95 f95.P F9 f95.A f95.F f95.ok
def f147:Nat→Nat→Option (Bool)
 | 0,_=>none
 | n+1,x1 =>
   some (Nz .f64 (BW .f64 x1 x1) 0)
def f147.P:List Ae:=[Yg]
def f147.A:Aa (Bool):=.one ⟨[CN],[none]⟩ C3
def f147.F (n:Nat) (v:Nat):=f147 n v
def f147.O (n:Nat):BJ:=AK (E:=E) [] [] n
theorem f147.ok:Bh 147 f147.P BE f147.A f147.F:=Bi fK f147.O
def f147.w:A7 E:=BQ 147 f147.P BE f147.A f147.F f147.ok
def f148:Nat→Option (Nat)
 | 0=>none
 | n+1 =>
   bd (Av n (9221120237041090561:Int)) fun r1 =>
   let x2:=r1
   some x2
def f148.P:List Ae:=[]
def f148.A:Aa (Nat):=.one ⟨[WE],[]⟩ BE
def f148.F (n:Nat) (v:Unit):=f148 n
def f148.O (n:Nat):BJ:=AK (E:=E) [x169.w] [] n
theorem f148.ok:Bh 148 f148.P sg f148.A f148.F:=Bi fM f148.O
def f148.w:A7 E:=BQ 148 f148.P sg f148.A f148.F f148.ok
def f149:Nat→Nat→Option (Bool)
 | 0,_=>none
 | n+1,x1 =>
   bd (Qo n x1) fun r2 =>
   let x3:=r2
   some (Ly .f64 x3 4841369599423283200)
def f149.P:List Ae:=[Yg]
def f149.A:Aa (Bool):=.one ⟨[CN],[none]⟩ C3
def f149.F (n:Nat) (v:Nat):=f149 n v
def f149.O (n:Nat):BJ:=AK (E:=E) [x170.w] [] n
theorem f149.ok:Bh 149 f149.P BE f149.A f149.F:=Bi eV f149.O
def f149.w:A7 E:=BQ 149 f149.P BE f149.A f149.F f149.ok
def f178:Nat→Nat→Option (Nat)
 | 0,_=>none
 | n+1,x1 =>
   bd (C2 n x1) fun r2 =>
   let x3:=r2
   some x3
def f178.P:List Ae:=[Yg]
def f178.A:Aa (Nat):=.one ⟨[WE],[none]⟩ BE
def f178.F (n:Nat) (v:Nat):=f178 n v
def f178.O (n:Nat):BJ:=AK (E:=E) [x179.w] [] n
theorem f178.ok:Bh 178 f178.P BE f178.A f178.F:=Bi eY f178.O
def f178.w:A7 E:=BQ 178 f178.P BE f178.A f178.F f178.ok
def f171:Nat→Nat→Option (Nat)
 | 0,_=>none
 | n+1,x1 =>
   bd (f178 n x1) fun r2 =>
   let x3:=r2
   br (Nz .f64 x3 0) (
    let x4:=(BW .f64 x1 0)
    br (flt .f64 x4 0) (
     let x5:=(Au .f64 x4 4607182418800017408)
     some x5) (
     some x4)) (
    let x6:=(BW .f64 x1 x3)
    br (flt .f64 x6 0) (
     let x7:=(Au .f64 x6 4607182418800017408)
     some x7) (
     some x6))
def f171.P:List Ae:=[Yg]
def f171.A:Aa (Nat):=.one ⟨[WE],[none]⟩ BE
def f171.F (n:Nat) (v:Nat):=f171 n v
def f171.O (n:Nat):BJ:=AK (E:=E) [f178.w] [] n
theorem f171.ok:Bh 171 f171.P BE f171.A f171.F:=Bi gl f171.O
def f171.w:A7 E:=BQ 171 f171.P BE f171.A f171.F f171.ok
def f150.l0 (n:Nat):Nat→Bool→Nat→Nat→Nat→Nat→Option (Bool × Nat × Nat)
 | 0,_,_,_,_,_=>none
 | m+1,b1,x2,x3,x4,x5 =>
   br (Ly .f64 x5 4607182418800017408) (
    let x6:=(BW .f64 4607182418800017408 (fdiv .f64 (AM .f64 x3 x4) (AM .f64 (AM .f64 4611686018427387904 x5) (Au .f64 (AM .f64 4611686018427387904 x5) 4607182418800017408))))
    f150.l0 n m b1 x2 x3 x6 (BW .f64 x5 4607182418800017408)) (
    some (b1,x2,x4))
def f150:Nat→Nat→Option (Nat)
 | 0,_=>none
 | n+1,x1 =>
   bd (f171 n x1) fun r2 =>
   let x3:=r2
   let b4:=(Ly .f64 x3 4602678819172646912)
   br b4 (
    let x5:=(BW .f64 x3 4602678819172646912)
    br (F4 .f64 x5 4598175219545276416) (
     let x6:=(BW .f64 4602678819172646912 x5)
     let x7:=(AM .f64 x6 4618760256179416344)
     let x8:=(AM .f64 x7 x7)
     bd (f150.l0 n n b4 x7 x8 4607182418800017408 4620693217682128896) fun r9 =>
     let b10:=r9.1
     let x11:=r9.2.1
     let x12:=r9.2.2
     br b10 (
      some (He .f64 (AM .f64 x11 x12))) (
      some (AM .f64 x11 x12))) (
     let x13:=(AM .f64 x5 4618760256179416344)
     let x14:=(AM .f64 x13 x13)
     bd (f150.l0 n n b4 x13 x14 4607182418800017408 4620693217682128896) fun r15 =>
     let b16:=r15.1
     let x17:=r15.2.1
     let x18:=r15.2.2
     br b16 (
      some (He .f64 (AM .f64 x17 x18))) (
      some (AM .f64 x17 x18)))) (
    br (F4 .f64 x3 4598175219545276416) (
     let x19:=(BW .f64 4602678819172646912 x3)
     let x20:=(AM .f64 x19 4618760256179416344)
     let x21:=(AM .f64 x20 x20)
     bd (f150.l0 n n b4 x20 x21 4607182418800017408 4620693217682128896) fun r22 =>
     let b23:=r22.1
     let x24:=r22.2.1
     let x25:=r22.2.2
     br b23 (
      some (He .f64 (AM .f64 x24 x25))) (
      some (AM .f64 x24 x25))) (
     let x26:=(AM .f64 x3 4618760256179416344)
     let x27:=(AM .f64 x26 x26)
     bd (f150.l0 n n b4 x26 x27 4607182418800017408 4620693217682128896) fun r28 =>
     let b29:=r28.1
     let x30:=r28.2.1
     let x31:=r28.2.2
     br b29 (
      some (He .f64 (AM .f64 x30 x31))) (
      some (AM .f64 x30 x31))))
def VD:By (jN) where
 pk:=fun (a0,a1,a2,a3,a4)=>[.bool a0,.flt a1,.flt a2,.flt a3,.flt a4]
 up:=fun ls=>match ls with
  | [.bool a0,.flt a1,.flt a2,.flt a3,.flt a4]=>some (a0,a1,a2,a3,a4)
  | _=>none
def eH:By (Bool × Nat × Nat) where
 pk:=fun (a0,a1,a2)=>[.bool a0,.flt a1,.flt a2]
 up:=fun ls=>match ls with
  | [.bool a0,.flt a1,.flt a2]=>some (a0,a1,a2)
  | _=>none
def f150.l0.P:AS:=⟨[(4,Jm),(5,Nq),(6,Nq),(7,Nq),(8,Nq)],0⟩
def f150.l0.A:D7 (Bool × Nat × Nat):=.one (.exit 0) ⟨[(4,Jm),(5,Nq),(7,Nq)],0⟩ eH
def f150.l0.F (n m:Nat) (v:jN):=let (a,b,c,d,e):=v;f150.l0 n m a b c d e
def f150.l0.W (n:Nat):ER:=.of 176 f150.l0.P VD f150.l0.A (f150.l0.F n n)
def f150.P:List Ae:=[Yg]
def f150.A:Aa (Nat):=.one ⟨[WE],[none]⟩ BE
def f150.F (n:Nat) (v:Nat):=f150 n v
def f150.O (n:Nat):BJ:=AK (E:=E) [f171.w] [f150.l0.W n] n
theorem f150.l0.ok:∀ n,E0 150 Y8 0 n (f150.O n):=FC f150.l0.P VD f150.l0.A f150.l0.F
theorem f150.ok:Bh 150 f150.P BE f150.A f150.F:=Bi Y8 f150.O [Ac Y8 0] (fun n=>(.cons (f150.l0.ok n) .nil))
def f150.w:A7 E:=BQ 150 f150.P BE f150.A f150.F f150.ok
def f117:Nat→Nat→Option (Nat)
 | 0,_=>none
 | n+1,x1 =>
   bd ((Ar .f32 x1 .f64)) fun y2 =>
   bd (f147 n y2) fun r3 =>
   let b4:=r3
   br (!b4) (
    bd (f148 n) fun r5 =>
    let x6:=r5
    bd ((Ar .f64 x6 .f32)) fun y7 =>
    some y7) (
    bd (f149 n y2) fun r8 =>
    let b9:=r8
    br b9 (
     some 0) (
     bd (f150 n y2) fun r10 =>
     let x11:=r10
     bd ((Ar .f64 x11 .f32)) fun y12 =>
     some y12))
def f117.P:List Ae:=[Cx]
def f117.A:Aa (Nat):=.one ⟨[Fh],[none]⟩ BE
def f117.F (n:Nat) (v:Nat):=f117 n v
def f117.O (n:Nat):BJ:=AK (E:=E) [f147.w,f148.w,f149.w,f150.w] [] n
theorem f117.ok:Bh 117 f117.P BE f117.A f117.F:=Bi fV f117.O
def f117.w:A7 E:=BQ 117 f117.P BE f117.A f117.F f117.ok
def f96:Nat→Nat→Option (Nat × Nat × Bool)
 | 0,_=>none
 | n+1,x1 =>
   bd (f90 n x1) fun r2 =>
   let b3:=r2
   br (!b3) (
    some (0,0,false)) (
    bd (f117 n (fdiv .f32 (BW .f32 1065353216 x1) 1082130432)) fun r4 =>
    let x5:=r4
    bd (f117 n (fdiv .f32 x1 1082130432)) fun r6 =>
    let x7:=r6
    some (x5,x7,true))
def eO:By (Nat × Nat × Bool) where
 pk:=fun (a0,a1,a2)=>[.flt a0,.flt a1,.bool a2]
 up:=fun ls=>match ls with
  | [.flt a0,.flt a1,.bool a2]=>some (a0,a1,a2)
  | _=>none
def f96.P:List Ae:=[Cx]
def f96.A:Aa (Nat × Nat × Bool):=.one ⟨[Fh,Fh,CN],[none]⟩ eO
def f96.F (n:Nat) (v:Nat):=f96 n v
def f96.O (n:Nat):BJ:=AK (E:=E) [f90.w,f117.w] [] n
theorem f96.ok:Bh 96 f96.P BE f96.A f96.F:=Bi mM f96.O
def f96.w:A7 E:=BQ 96 f96.P BE f96.A f96.F f96.ok
def f52.l1 (n:Nat):Nat→Nat→List T→Int→Nat→List T→Nat→List T→Nat→List T→Nat→Nat→Nat→Nat→List T→Int→Int→Nat→List T→Int→Int→Option (cN)
 | 0,_,_,_,_,_,_,_,_,_,_,_,_,_,_,_,_,_,_,_,_=>none
 | m+1,n1,l2,i3,n4,l5,n6,l7,n8,l9,x10,x11,x12,n13,l14,i15,i16,n17,l18,i19,i20 =>
   br (decide (i20<i19)) (
    gd ((decide ((0≤i20)∧(i20<(n17:Int))))&&(AI [(.flt .f32)] l18 (Int.toNat i20))) (
    let x21:=(BR l18 (Int.toNat i20))
    let x22:=(AM .f32 x21 x10)
    gd (decide ((0≤i20)∧(i20<(n4:Int)))) (
    gd (AI [(.flt .f32)] l5 (Int.toNat i20)) (
    gd (decide ((0≤i20)∧(i20<(n4:Int)))) (
    gd (Nat.ble ((Int.toNat i20)+1) (List.length l5)) (
    let l23:=(AF l5 (Int.toNat i20) [(T.flt .f32 (Au .f32 (BR l5 (Int.toNat i20)) (AM .f32 x22 x11)))])
    gd (decide ((0≤i20)∧(i20<(n6:Int)))) (
    gd (AI [(.flt .f32)] l7 (Int.toNat i20)) (
    gd (decide ((0≤i20)∧(i20<(n6:Int)))) (
    gd (Nat.ble ((Int.toNat i20)+1) (List.length l7)) (
    let l24:=(AF l7 (Int.toNat i20) [(T.flt .f32 (Au .f32 (BR l7 (Int.toNat i20)) (AM .f32 x22 x12)))])
    f52.l1 n m n1 l2 i3 n4 l23 n6 l24 n8 l9 x10 x11 x12 n13 l14 i15 i16 n17 l18 i19 (IntKind.i64.wrap (i20+(1:Int))))))))))))) (
    some (n1,l2,i3,n4,l5,n6,l7,n8,l9,n13,l14,i15,i16))
termination_by structural x=>x
def f52.l0 (n:Nat):Nat→Nat→List T→Int→Nat→List T→Nat→List T→Nat→List T→Nat→List T→Int→Int→Option (Cf)
 | 0,_,_,_,_,_,_,_,_,_,_,_,_,_=>none
 | m+1,n1,l2,i3,n4,l5,n6,l7,n8,l9,n10,l11,i12,i13 =>
   br (decide (i13<i12)) (
    gd ((decide ((0≤i13)∧(i13<(n10:Int))))&&(AI [.lst,(.int .i64),(.flt .f32),.bool,.bool] l11 (((Int.toNat i13) * 5)+0))) (
    let n14:=(GZ l11 (((Int.toNat i13) * 5)+0))
    let l15:=(HD l11 (((Int.toNat i13) * 5)+0))
    let i16:=(Ed l11 ((((Int.toNat i13) * 5)+0)+1))
    let x17:=(BR l11 (((((Int.toNat i13) * 5)+0)+1)+1))
    let b18:=(KA l11 ((((((Int.toNat i13) * 5)+0)+1)+1)+1))
    let b19:=(KA l11 (((((((Int.toNat i13) * 5)+0)+1)+1)+1)+1))
    gd (decide ((0≤i13)∧(i13<(n8:Int)))) (
    gd (AI [.bool] l9 (Int.toNat i13)) (
    br (!(KA l9 (Int.toNat i13))) (
     f52.l0 n m n1 l2 i3 n4 l5 n6 l7 n8 l9 n10 l11 i12 (IntKind.i64.wrap (i13+(1:Int)))) (
     bd (f95 n i16) fun r20 =>
     let x21:=r20.1
     bd (f96 n x17) fun r23 =>
     let x24:=r23.1
     let x25:=r23.2.1
     bd (f58 n (n14:Int)) fun r27 =>
     let i28:=r27
     gd (decide ((0≤(0:Int))∧(((0:Int)≤(if (i28<i3) then i28 else i3))∧((if (i28<i3) then i28 else i3)≤(n14:Int))))) (
     bd (f52.l1 n n n1 l2 i3 n4 l5 n6 l7 n8 l9 x21 x24 x25 n10 l11 i12 i13 ((Int.toNat (if (i28<i3) then i28 else i3)) - 0) (List.take ((Int.toNat (if (i28<i3) then i28 else i3)) - 0) (List.drop 0 l15)) ((((Int.toNat (if (i28<i3) then i28 else i3)) - 0):Nat):Int) (0:Int)) fun r29 =>
     let n30:=r29.1
     let l31:=r29.2.1
     let i32:=r29.2.2.1
     let n33:=r29.2.2.2.1
     let l34:=r29.2.2.2.2.1
     let n35:=r29.2.2.2.2.2.1
     let l36:=r29.2.2.2.2.2.2.1
     let n37:=r29.2.2.2.2.2.2.2.1
     let l38:=r29.2.2.2.2.2.2.2.2.1
     let n39:=r29.2.2.2.2.2.2.2.2.2.1
     let l40:=r29.2.2.2.2.2.2.2.2.2.2.1
     let i41:=r29.2.2.2.2.2.2.2.2.2.2.2.1
     let i42:=r29.2.2.2.2.2.2.2.2.2.2.2.2
     f52.l0 n m n30 l31 i32 n33 l34 n35 l36 n37 l38 n39 l40 i41 (IntKind.i64.wrap (i42+(1:Int))))))))) (
    some (n4,l5,n6,l7))
termination_by structural x=>x
def f52:Nat→Nat→List T→Int→Option (Cf)
 | 0,_,_,_=>none
 | n+1,n1,l2,i3 =>
   bd (f93 n i3) fun r4 =>
   let n5:=r4.1
   let l6:=r4.2
   bd (f93 n i3) fun r7 =>
   let n8:=r7.1
   let l9:=r7.2
   bd (f94 n n1 l2) fun r10 =>
   let n11:=r10.1
   let l12:=r10.2
   bd (f52.l0 n n n1 l2 i3 n5 l6 n8 l9 n11 l12 n1 l2 (n1:Int) (0:Int)) fun r13 =>
   let n14:=r13.1
   let l15:=r13.2.1
   let n16:=r13.2.2.1
   let l17:=r13.2.2.2
   some (n14,l15,n16,l17)
def Wz:By (Nat × List T × Int) where
 pk:=fun (a0,a1,a2)=>[.lst a0 a1,.int a2]
 up:=fun ls=>match ls with
  | [.lst a0 a1,.int a2]=>some (a0,a1,a2)
  | _=>none
def HK:By (nQ) where
 pk:=fun (a0,a1,a2,a3,a4,a5,a6,a7,a8,a9,a10,a11,a12,a13,a14,a15,a16,a17,a18,a19)=>[.lst a0 a1,.int a2,.lst a3 a4,.lst a5 a6,.lst a7 a8,.flt a9,.flt a10,.flt a11,.lst a12 a13,.int a14,.int a15,.lst a16 a17,.int a18,.int a19]
 up:=fun ls=>match ls with
  | [.lst a0 a1,.int a2,.lst a3 a4,.lst a5 a6,.lst a7 a8,.flt a9,.flt a10,.flt a11,.lst a12 a13,.int a14,.int a15,.lst a16 a17,.int a18,.int a19]=>some (a0,a1,a2,a3,a4,a5,a6,a7,a8,a9,a10,a11,a12,a13,a14,a15,a16,a17,a18,a19)
  | _=>none
def JK:By (cN) where
 pk:=fun (a0,a1,a2,a3,a4,a5,a6,a7,a8,a9,a10,a11,a12)=>[.lst a0 a1,.int a2,.lst a3 a4,.lst a5 a6,.lst a7 a8,.lst a9 a10,.int a11,.int a12]
 up:=fun ls=>match ls with
  | [.lst a0 a1,.int a2,.lst a3 a4,.lst a5 a6,.lst a7 a8,.lst a9 a10,.int a11,.int a12]=>some (a0,a1,a2,a3,a4,a5,a6,a7,a8,a9,a10,a11,a12)
  | _=>none
def f52.l1.P:AS:=⟨[(0,Qe),(1,AU),(6,A3),(7,A3),(8,A3),(11,Px),(13,Px),(14,Px),(25,Qe),(26,AU),(27,AU),(58,DY),(59,AU),(60,AU)],0⟩
def f52.l1.A:D7 (cN):=.one (.exit 2) ⟨[(0,Qe),(1,AU),(6,A3),(7,A3),(8,A3),(25,Qe),(26,AU),(27,AU),(86,.dead),(87,.dead)],0⟩ JK
def f52.l1.F (n m:Nat) (v:nQ):=let (a,b,c,d,e,f,g,h,i,j,k,l,o,p,q,r,s,t,u,v):=v;f52.l1 n m a b c d e f g h i j k l o p q r s t u v
def f52.l1.W (n:Nat):ER:=.of 160 f52.l1.P HK f52.l1.A (f52.l1.F n n)
def f52.l0.P:AS:=⟨[(0,Qe),(1,AU),(6,A3),(7,A3),(8,A3),(25,Qe),(26,AU),(27,AU)],0⟩
def f52.l0.A:D7 (Cf):=.one (.exit 0) ⟨[(6,A3),(7,A3)],0⟩ Bl
def f52.l0.F (n m:Nat) (v:cN):=let (a,b,c,d,e,f,g,h,i,j,k,l,o):=v;f52.l0 n m a b c d e f g h i j k l o
def f52.l0.W (n:Nat):ER:=.of 64 f52.l0.P JK f52.l0.A (f52.l0.F n n)
def f52.P:List Ae:=[dt,CV]
def f52.A:Aa (Cf):=.one ⟨[DZ,DZ],[none,none]⟩ Bl
def f52.F (n:Nat) (v:Nat × List T × Int):=f52 n v.1 v.2.1 v.2.2
def f52.O (n:Nat):BJ:=AK (E:=E) [f58.w,f93.w,f94.w,f95.w,f96.w] [f52.l1.W n,f52.l0.W n] n
theorem f52.l1.ok:∀ n,E0 52 fC 1 n (f52.O n):=FC f52.l1.P HK f52.l1.A f52.l1.F
theorem f52.l0.ok:∀ n,E0 52 fC 0 n (f52.O n):=FC f52.l0.P JK f52.l0.A f52.l0.F [Ac fC 1] (fun n=>(.cons (f52.l1.ok n) .nil))
theorem f52.ok:Bh 52 f52.P Wz f52.A f52.F:=Bi fC f52.O [Ac fC 0] (fun n=>(.cons (f52.l0.ok n) .nil))
def f52.w:A7 E:=BQ 52 f52.P Wz f52.A f52.F f52.ok
def f21:Nat→Nat→List T→Nat→List T→Int→Option (SU)
 | 0,_,_,_,_,_=>none
 | n+1,n1,l2,n3,l4,i5 =>
   bd (f50 n n1 l2 n3 l4) fun r6 =>
   let b7:=r6
   br (!b7) (
    some (0,[],0,[],false)) (
    bd (f51 n i5) fun r8 =>
    let b9:=r8
    br (!b9) (
     some (0,[],0,[],false)) (
     bd (f21.l0 n n i5 n1 l2 n3 l4 0 [] n3 l4 (n3:Int) (0:Int)) fun r10 =>
     let i11:=r10.1
     let n12:=r10.2.1
     let l13:=r10.2.2
     bd (f52 n n12 l13 i11) fun r14 =>
     let n15:=r14.1
     let l16:=r14.2.1
     let n17:=r14.2.2.1
     let l18:=r14.2.2.2
     some (n15,l16,n17,l18,true)))
def HU:By (TC) where
 pk:=fun (a0,a1,a2,a3,a4)=>[.lst a0 a1,.lst a2 a3,.int a4]
 up:=fun ls=>match ls with
  | [.lst a0 a1,.lst a2 a3,.int a4]=>some (a0,a1,a2,a3,a4)
  | _=>none
def SK:By (SU) where
 pk:=fun (a0,a1,a2,a3,a4)=>[.lst a0 a1,.lst a2 a3,.bool a4]
 up:=fun ls=>match ls with
  | [.lst a0 a1,.lst a2 a3,.bool a4]=>some (a0,a1,a2,a3,a4)
  | _=>none
def Pw:By (j6) where
 pk:=fun (a0,a1,a2,a3,a4,a5,a6,a7,a8,a9,a10)=>[.int a0,.lst a1 a2,.lst a3 a4,.lst a5 a6,.lst a7 a8,.int a9,.int a10]
 up:=fun ls=>match ls with
  | [.int a0,.lst a1 a2,.lst a3 a4,.lst a5 a6,.lst a7 a8,.int a9,.int a10]=>some (a0,a1,a2,a3,a4,a5,a6,a7,a8,a9,a10)
  | _=>none
def iF:By (Int × Nat × List T) where
 pk:=fun (a0,a1,a2)=>[.int a0,.lst a1 a2]
 up:=fun ls=>match ls with
  | [.int a0,.lst a1 a2]=>some (a0,a1,a2)
  | _=>none
def f21.l0.P:AS:=⟨[(1,AU),(2,Ig),(7,.val false [.sl .own [.sl .own [.leaf],.leaf,.leaf,.leaf,.leaf]] [.lst 0 []] [] 0),(21,cu),(22,AU),(23,AU)],0⟩
def f21.l0.A:D7 (Int × Nat × List T):=.one (.exit 0) ⟨[(1,AU),(7,.val false [.sl .own [.sl .own [.leaf],.leaf,.leaf,.leaf,.leaf]] [.lst 0 []] [] 0)],0⟩ iF
def f21.l0.F (n m:Nat) (v:j6):=let (a,b,c,d,e,f,g,h,i,j,k):=v;f21.l0 n m a b c d e f g h i j k
def f21.l0.W (n:Nat):ER:=.of 80 f21.l0.P Pw f21.l0.A (f21.l0.F n n)
def f21.P:List Ae:=[P8,CV]
def f21.A:Aa (SU):=.one ⟨[DZ,DZ,CN],[none,none]⟩ SK
def f21.F (n:Nat) (v:TC):=let (a,b,c,d,e):=v;f21 n a b c d e
def f21.O (n:Nat):BJ:=AK (E:=E) [f51.w,f50.w,f34.w,f52.w] [f21.l0.W n] n
theorem f21.l0.ok:∀ n,E0 21 jt 0 n (f21.O n):=FC f21.l0.P Pw f21.l0.A f21.l0.F
theorem f21.ok:Bh 21 f21.P HU f21.A f21.F:=Bi jt f21.O [Ac jt 0] (fun n=>(.cons (f21.l0.ok n) .nil))
def f21.w:A7 E:=BQ 21 f21.P HU f21.A f21.F f21.ok
def f33:Nat→Nat→List T→Nat→List T→Int→Int→Option (Bool)
 | 0,_,_,_,_,_,_=>none
 | n+1,n1,l2,n3,l4,i5,i6 =>
   bd (f50 n n1 l2 n3 l4) fun r7 =>
   let b8:=r7
   br b8 (
    bd (f71 n i5 (n3:Int)) fun r9 =>
    let b10:=r9
    br b10 (
     bd (f51 n i6) fun r11 =>
     let b12:=r11
     some b12) (
     some false)) (
    some false)
def f33.P:List Ae:=[P8,CV,CV]
def f33.A:Aa (Bool):=.one ⟨[CN],[none,none,none]⟩ C3
def f33.F (n:Nat) (v:NC):=let (a,b,c,d,e,f):=v;f33 n a b c d e f
def f33.O (n:Nat):BJ:=AK (E:=E) [f71.w,f51.w,f50.w] [] n
theorem f33.ok:Bh 33 f33.P Cc f33.A f33.F:=Bi nC f33.O
def f33.w:A7 E:=BQ 33 f33.P Cc f33.A f33.F f33.ok
def f42.l0 (n:Nat):Nat→Nat→List T→Nat→List T→Nat→List T→Nat→List T→Nat→List T→Nat→List T→Nat→List T→Int→Int→Option (Z3)
 | 0,_,_,_,_,_,_,_,_,_,_,_,_,_,_,_,_=>none
 | m+1,n1,l2,n3,l4,n5,l6,n7,l8,n9,l10,n11,l12,n13,l14,i15,i16 =>
   br (decide (i16<i15)) (
    gd ((decide ((0≤i16)∧(i16<(n13:Int))))&&(AI [(.int .i64),(.int .i64),.lst] l14 (((Int.toNat i16) * 3)+0))) (
    let i17:=(Ed l14 (((Int.toNat i16) * 3)+0))
    let i18:=(Ed l14 ((((Int.toNat i16) * 3)+0)+1))
    let n19:=(GZ l14 (((((Int.toNat i16) * 3)+0)+1)+1))
    let l20:=(HD l14 (((((Int.toNat i16) * 3)+0)+1)+1))
    bd (f79 n n19 l20) fun r21 =>
    let n22:=r21.1
    let l23:=r21.2
    gd (Nat.ble (n9+1) 2147483648) (
    let n24:=(n9+1)
    let l25:=(l10++(AF (reps 1 [(T.int .i64 (0:Int)),(T.int .i64 (0:Int)),(T.lst 0 [])]) 0 [(T.int .i64 i17),(T.int .i64 i18),(T.lst n22 l23)]))
    f42.l0 n m n1 l2 n3 l4 n5 l6 n7 l8 n24 l25 n11 l12 n13 l14 i15 (IntKind.i64.wrap (i16+(1:Int)))))) (
    some (n1,l2,n3,l4,n5,l6,n7,l8,n9,l10,n11,l12))
termination_by structural x=>x
def f80.l0 (n:Nat):Nat→Nat→List T→Nat→List T→Nat→List T→Int→Int→Option (Nat × List T)
 | 0,_,_,_,_,_,_,_,_=>none
 | m+1,n1,l2,n3,l4,n5,l6,i7,i8 =>
   br (decide (i8<i7)) (
    gd ((decide ((0≤i8)∧(i8<(n5:Int))))&&(AI [(.int .i64),(.int .i64),.lst] l6 (((Int.toNat i8) * 3)+0))) (
    let i9:=(Ed l6 (((Int.toNat i8) * 3)+0))
    let i10:=(Ed l6 ((((Int.toNat i8) * 3)+0)+1))
    let n11:=(GZ l6 (((((Int.toNat i8) * 3)+0)+1)+1))
    let l12:=(HD l6 (((((Int.toNat i8) * 3)+0)+1)+1))
    bd (f79 n n11 l12) fun r13 =>
    let n14:=r13.1
    let l15:=r13.2
    gd (Nat.ble (n3+1) 2147483648) (
    let n16:=(n3+1)
    let l17:=(l4++(AF (reps 1 [(T.int .i64 (0:Int)),(T.int .i64 (0:Int)),(T.lst 0 [])]) 0 [(T.int .i64 i9),(T.int .i64 i10),(T.lst n14 l15)]))
    f80.l0 n m n1 l2 n16 l17 n5 l6 i7 (IntKind.i64.wrap (i8+(1:Int)))))) (
    some (n3,l4))
def f80:Nat→Nat→List T→Option (Nat × List T)
 | 0,_,_=>none
 | n+1,n1,l2 =>
   bd (f80.l0 n n n1 l2 0 [] n1 l2 (n1:Int) (0:Int)) fun r3 =>
   let n4:=r3.1
   let l5:=r3.2
   some (n4,l5)
def f80.l0.P:AS:=⟨[(0,Hu),(3,XT),(6,Hu),(7,AU),(8,AU)],0⟩
def f80.l0.A:D7 (Nat × List T):=.one (.exit 0) ⟨[(3,XT)],0⟩ Bg
def f80.l0.F (n m:Nat) (v:Tq):=let (a,b,c,d,e,f,g,h):=v;f80.l0 n m a b c d e f g h
def f80.l0.W (n:Nat):ER:=.of 48 f80.l0.P Dn f80.l0.A (f80.l0.F n n)
def f80.P:List Ae:=[Uh]
def f80.A:Aa (Nat × List T):=.one ⟨[mR],[none]⟩ Bg
def f80.F (n:Nat) (v:Nat × List T):=f80 n v.1 v.2
def f80.O (n:Nat):BJ:=AK (E:=E) [f79.w] [f80.l0.W n] n
theorem f80.l0.ok:∀ n,E0 80 jr 0 n (f80.O n):=FC f80.l0.P Dn f80.l0.A f80.l0.F
theorem f80.ok:Bh 80 f80.P Bg f80.A f80.F:=Bi jr f80.O [Ac jr 0] (fun n=>(.cons (f80.l0.ok n) .nil))
def f80.w:A7 E:=BQ 80 f80.P Bg f80.A f80.F f80.ok
def f42.l1 (n:Nat):Nat→Nat→List T→Nat→List T→Nat→List T→Nat→List T→Nat→List T→Nat→List T→Nat→List T→Int→Int→Option (Vd)
 | 0,_,_,_,_,_,_,_,_,_,_,_,_,_,_,_,_=>none
 | m+1,n1,l2,n3,l4,n5,l6,n7,l8,n9,l10,n11,l12,n13,l14,i15,i16 =>
   br (decide (i16<i15)) (
    gd ((decide ((0≤i16)∧(i16<(n13:Int))))&&(AI [.lst,(.int .i64),(.flt .f32),.bool,.bool] l14 (((Int.toNat i16) * 5)+0))) (
    let n17:=(GZ l14 (((Int.toNat i16) * 5)+0))
    let l18:=(HD l14 (((Int.toNat i16) * 5)+0))
    let i19:=(Ed l14 ((((Int.toNat i16) * 5)+0)+1))
    let x20:=(BR l14 (((((Int.toNat i16) * 5)+0)+1)+1))
    let b21:=(KA l14 ((((((Int.toNat i16) * 5)+0)+1)+1)+1))
    let b22:=(KA l14 (((((((Int.toNat i16) * 5)+0)+1)+1)+1)+1))
    bd (f80 n n17 l18) fun r23 =>
    let n24:=r23.1
    let l25:=r23.2
    gd (Nat.ble (n11+1) 2147483648) (
    let n26:=(n11+1)
    let l27:=(l12++(AF (reps 1 [(T.lst 0 []),(T.int .i64 (0:Int)),(T.flt .f32 0),(T.bool false),(T.bool false)]) 0 [(T.lst n24 l25),(T.int .i64 i19),(T.flt .f32 x20),(T.bool b21),(T.bool b22)]))
    f42.l1 n m n1 l2 n3 l4 n5 l6 n7 l8 n9 l10 n26 l27 n13 l14 i15 (IntKind.i64.wrap (i16+(1:Int)))))) (
    some (n5,l6,n7,l8,n9,l10,n11,l12))
termination_by structural x=>x
def f42:Nat→Nat→List T→Nat→List T→Option (Cf)
 | 0,_,_,_,_=>none
 | n+1,n1,l2,n3,l4 =>
   bd (f42.l0 n n n1 l2 n3 l4 0 [] 0 [] 0 [] 0 [] n1 l2 (n1:Int) (0:Int)) fun r5 =>
   let n6:=r5.1
   let l7:=r5.2.1
   let n8:=r5.2.2.1
   let l9:=r5.2.2.2.1
   let n10:=r5.2.2.2.2.1
   let l11:=r5.2.2.2.2.2.1
   let n12:=r5.2.2.2.2.2.2.1
   let l13:=r5.2.2.2.2.2.2.2.1
   let n14:=r5.2.2.2.2.2.2.2.2.1
   let l15:=r5.2.2.2.2.2.2.2.2.2.1
   let n16:=r5.2.2.2.2.2.2.2.2.2.2.1
   let l17:=r5.2.2.2.2.2.2.2.2.2.2.2
   bd (f42.l1 n n n6 l7 n8 l9 n10 l11 n12 l13 n14 l15 n16 l17 n8 l9 (n8:Int) (0:Int)) fun r18 =>
   let n23:=r18.2.2.2.2.1
   let l24:=r18.2.2.2.2.2.1
   let n25:=r18.2.2.2.2.2.2.1
   let l26:=r18.2.2.2.2.2.2.2
   some (n23,l24,n25,l26)
def Du:By (bt) where
 pk:=fun (a0,a1,a2,a3,a4,a5,a6,a7,a8,a9,a10,a11,a12,a13,a14,a15)=>[.lst a0 a1,.lst a2 a3,.lst a4 a5,.lst a6 a7,.lst a8 a9,.lst a10 a11,.lst a12 a13,.int a14,.int a15]
 up:=fun ls=>match ls with
  | [.lst a0 a1,.lst a2 a3,.lst a4 a5,.lst a6 a7,.lst a8 a9,.lst a10 a11,.lst a12 a13,.int a14,.int a15]=>some (a0,a1,a2,a3,a4,a5,a6,a7,a8,a9,a10,a11,a12,a13,a14,a15)
  | _=>none
def RT:By (Z3) where
 pk:=fun (a0,a1,a2,a3,a4,a5,a6,a7,a8,a9,a10,a11)=>[.lst a0 a1,.lst a2 a3,.lst a4 a5,.lst a6 a7,.lst a8 a9,.lst a10 a11]
 up:=fun ls=>match ls with
  | [.lst a0 a1,.lst a2 a3,.lst a4 a5,.lst a6 a7,.lst a8 a9,.lst a10 a11]=>some (a0,a1,a2,a3,a4,a5,a6,a7,a8,a9,a10,a11)
  | _=>none
def Rp:By (Vd) where
 pk:=fun (a0,a1,a2,a3,a4,a5,a6,a7)=>[.lst a0 a1,.lst a2 a3,.lst a4 a5,.lst a6 a7]
 up:=fun ls=>match ls with
  | [.lst a0 a1,.lst a2 a3,.lst a4 a5,.lst a6 a7]=>some (a0,a1,a2,a3,a4,a5,a6,a7)
  | _=>none
def f42.l0.P:AS:=⟨[(1,Ig),(2,DR),(3,DR),(9,Hu),(10,AU),(11,AU)],0⟩
def f42.l0.A:D7 (Z3):=.one (.exit 0) ⟨[(1,Ig),(2,DR),(3,DR),(43,.dead)],0⟩ RT
def f42.l0.F (n m:Nat) (v:bt):=let (a,b,c,d,e,f,g,h,i,j,k,l,o,p,q,r):=v;f42.l0 n m a b c d e f g h i j k l o p q r
def f42.l0.W (n:Nat):ER:=.of 48 f42.l0.P Du f42.l0.A (f42.l0.F n n)
def f42.l1.P:AS:=⟨[(1,Ig),(2,DR),(3,DR),(27,cu),(28,AU),(29,AU)],0⟩
def f42.l1.A:D7 (Vd):=.one (.exit 2) ⟨[(2,DR),(3,DR)],0⟩ Rp
def f42.l1.F (n m:Nat) (v:bt):=let (a,b,c,d,e,f,g,h,i,j,k,l,o,p,q,r):=v;f42.l1 n m a b c d e f g h i j k l o p q r
def f42.l1.W (n:Nat):ER:=.of 144 f42.l1.P Du f42.l1.A (f42.l1.F n n)
def f42.P:List Ae:=[P8]
def f42.A:Aa (Cf):=.one ⟨[Y2],[none]⟩ Bl
def f42.F (n:Nat) (v:Cf):=let (a,b,c,d):=v;f42 n a b c d
def f42.O (n:Nat):BJ:=AK (E:=E) [f79.w,f80.w] [f42.l0.W n,f42.l1.W n] n
theorem f42.l0.ok:∀ n,E0 42 dr 0 n (f42.O n):=FC f42.l0.P Du f42.l0.A f42.l0.F
theorem f42.l1.ok:∀ n,E0 42 dr 1 n (f42.O n):=FC f42.l1.P Du f42.l1.A f42.l1.F
theorem f42.ok:Bh 42 f42.P Bl f42.A f42.F:=Bi dr f42.O [Ac dr 0,Ac dr 1] (fun n=>(.cons (f42.l0.ok n) (.cons (f42.l1.ok n) .nil)))
def f42.w:A7 E:=BQ 42 f42.P Bl f42.A f42.F f42.ok
def f45:Nat→Nat→List T→Nat→List T→Option ((Zn) ⊕ (Zn))
 | 0,_,_,_,_=>none
 | n+1,n1,l2,n3,l4 =>
   bd (f50 n n1 l2 n3 l4) fun r5 =>
   let b6:=r5
   br (!b6) (
    some (Sum.inl (0,[],0,[],false,n1,l2,n3,l4))) (
    some (Sum.inr (n1,l2,n3,l4,true,n1,l2,n3,l4)))
def UV:By (Zn) where
 pk:=fun (a0,a1,a2,a3,a4,a5,a6,a7,a8)=>[.lst a0 a1,.lst a2 a3,.bool a4,.lst a5 a6,.lst a7 a8]
 up:=fun ls=>match ls with
  | [.lst a0 a1,.lst a2 a3,.bool a4,.lst a5 a6,.lst a7 a8]=>some (a0,a1,a2,a3,a4,a5,a6,a7,a8)
  | _=>none
def f45.P:List Ae:=[⟨.io,Y2⟩]
def f45.A:Aa ((Zn) ⊕ (Zn)):=.or (.one ⟨[Y2,CN],[some Y2]⟩ UV) (.one ⟨[Y2,CN],[some ⟨true,[.dead,.dead],[.lst 0 [],.lst 0 []]⟩]⟩ UV)
def f45.F (n:Nat) (v:Cf):=let (a,b,c,d):=v;f45 n a b c d
def f45.O (n:Nat):BJ:=AK (E:=E) [f50.w] [] n
theorem f45.ok:Bh 45 f45.P Bl f45.A f45.F:=Bi lQ f45.O
def f45.w:A7 E:=BQ 45 f45.P Bl f45.A f45.F f45.ok
def f16:Nat→Nat→List T→Nat→List T→Int→Int→Option (SU)
 | 0,_,_,_,_,_,_=>none
 | n+1,n1,l2,n3,l4,i5,i6 =>
   bd (f33 n n1 l2 n3 l4 i5 i6) fun r7 =>
   let b8:=r7
   br (!b8) (
    some (0,[],0,[],false)) (
    bd (f42 n n1 l2 n3 l4) fun r9 =>
    let n10:=r9.1
    let l11:=r9.2.1
    let n12:=r9.2.2.1
    let l13:=r9.2.2.2
    bd (FU 3 n n10 l11 i5) fun r14 =>
    let n15:=r14.1
    let l16:=r14.2.1
    bd (f34 n n1 l2 n3 l4 i5 i6) fun r19 =>
    let n20:=r19.1
    let l21:=r19.2
    gd (Nat.ble (n15+1) 2147483648) (
    let n22:=(n15+1)
    let l23:=(l16++(AF (reps 1 [(T.int .i64 (0:Int)),(T.int .i64 (0:Int)),(T.lst 0 [])]) 0 (AF (AF [(T.int .i64 (0:Int)),(T.int .i64 (0:Int)),(T.lst 0 [])] 0 [(T.int .i64 i5)]) 2 [(T.lst n20 l21)])))
    gd (decide ((0≤i5)∧(i5<(n12:Int)))) (
    gd (Nat.ble ((((Int.toNat i5) * 5)+0)+1) (List.length l13)) (
    let l24:=(AF l13 (((Int.toNat i5) * 5)+0) [(T.lst 0 [])])
    bd (f45 n n22 l23 n12 l24) fun r25 =>
    sm r25 (fun u26 =>
     let n27:=u26.1
     let l28:=u26.2.1
     let n29:=u26.2.2.1
     let l30:=u26.2.2.2.1
     let b31:=u26.2.2.2.2.1
     let n32:=u26.2.2.2.2.2.1
     let l33:=u26.2.2.2.2.2.2.1
     let n34:=u26.2.2.2.2.2.2.2.1
     let l35:=u26.2.2.2.2.2.2.2.2
     some (n27,l28,n29,l30,b31)) (fun u36 =>
     let n37:=u36.1
     let l38:=u36.2.1
     let n39:=u36.2.2.1
     let l40:=u36.2.2.2.1
     let b41:=u36.2.2.2.2.1
     let n42:=u36.2.2.2.2.2.1
     let l43:=u36.2.2.2.2.2.2.1
     let n44:=u36.2.2.2.2.2.2.2.1
     let l45:=u36.2.2.2.2.2.2.2.2
     some (n37,l38,n39,l40,b41))))))
def f16.P:List Ae:=[P8,CV,CV]
def f16.A:Aa (SU):=.one ⟨[Y2,CN],[none,none,none]⟩ SK
def f16.F (n:Nat) (v:NC):=let (a,b,c,d,e,f):=v;f16 n a b c d e f
def f16.O (n:Nat):BJ:=AK (E:=E) [x43.w,f34.w,f33.w,f42.w,f45.w] [] n
theorem f16.ok:Bh 16 f16.P Cc f16.A f16.F:=Bi mz f16.O
def f16.w:A7 E:=BQ 16 f16.P Cc f16.A f16.F f16.ok
def f28:Nat→Int→Int→Int→Option (Bool)
 | 0,_,_,_=>none
 | n+1,i1,i2,i3 =>
   br (decide (i1≥i2)) (
    some (decide (i1≤i3))) (
    some false)
def f28.P:List Ae:=[CV,CV,CV]
def f28.A:Aa (Bool):=.one ⟨[CN],[none,none,none]⟩ C3
def f28.F (n:Nat) (v:Int × Int × Int):=f28 n v.1 v.2.1 v.2.2
def f28.O (n:Nat):BJ:=AK (E:=E) [] [] n
theorem f28.ok:Bh 28 f28.P R7 f28.A f28.F:=Bi lk f28.O
def f28.w:A7 E:=BQ 28 f28.P R7 f28.A f28.F f28.ok
def f62:Nat→Nat→List T→Int→Nat→Bool→Bool→Nat→List T→Option (cp)
 | 0,_,_,_,_,_,_,_,_=>none
 | n+1,n1,l2,i3,x4,b5,b6,n7,l8 =>
   some (n7,l8,i3,x4,b5,b6,n7,l8)
def ND:By (cp) where
 pk:=fun (a0,a1,a2,a3,a4,a5,a6,a7)=>[.lst a0 a1,.int a2,.flt a3,.bool a4,.bool a5,.lst a6 a7]
 up:=fun ls=>match ls with
  | [.lst a0 a1,.int a2,.flt a3,.bool a4,.bool a5,.lst a6 a7]=>some (a0,a1,a2,a3,a4,a5,a6,a7)
  | _=>none
def f62.P:List Ae:=[⟨.val,⟨false,[.rf .shr [.sl .shr [.leaf,.leaf,.sl .shr [.leaf]],.leaf,.leaf,.leaf,.leaf]],[.ref [.lst 0 [],.int .i64 0,.flt .f32 0,.bool false,.bool false]]⟩⟩,⟨.io,DZ⟩]
def f62.A:Aa (cp):=.one ⟨[⟨true,[.sl .own [.leaf],.leaf,.leaf,.leaf,.leaf],[.lst 0 [],.int .i64 0,.flt .f32 0,.bool false,.bool false]⟩],[none,some ⟨false,[.dead],[.lst 0 []]⟩]⟩ ND
def f62.F (n:Nat) (v:cp):=let (a,b,c,d,e,f,g,h):=v;f62 n a b c d e f g h
def f62.O (n:Nat):BJ:=AK (E:=E) [] [] n
theorem f62.ok:Bh 62 f62.P ND f62.A f62.F:=Bi lh f62.O
def f62.w:A7 E:=BQ 62 f62.P ND f62.A f62.F f62.ok
def f105:Nat→Int→Int→Option (Int × Int)
 | 0,_,_=>none
 | n+1,i1,i2 =>
   br (i1==(0:Int)) (
    br (i1==(0:Int)) (
     some ((1:Int),(0:Int))) (
     br (i1==(1:Int)) (
      some ((5:Int),(2:Int))) (
      br (i1==(2:Int)) (
       some ((2:Int),i2)) (
       br (i1==(3:Int)) (
        some ((4:Int),(1:Int))) (
        br (i1==(5:Int)) (
         some ((0:Int),(0:Int))) (
         br (i1==(6:Int)) (
          some ((2:Int),(IntKind.i64.wrap ((1:Int)+i2)))) (
          some ((-1:Int),(-1:Int))))))))) (
    br (i1==(4:Int)) (
     some ((1:Int),(0:Int))) (
     br (i1==(1:Int)) (
      some ((5:Int),(2:Int))) (
      br (i1==(2:Int)) (
       some ((2:Int),i2)) (
       br (i1==(3:Int)) (
        some ((4:Int),(1:Int))) (
        br (i1==(5:Int)) (
         some ((0:Int),(0:Int))) (
         br (i1==(6:Int)) (
          some ((2:Int),(IntKind.i64.wrap ((1:Int)+i2)))) (
          some ((-1:Int),(-1:Int)))))))))
def f105.P:List Ae:=[CV,CV]
def f105.A:Aa (Int × Int):=.one ⟨[Ns,Ns],[none,none]⟩ T1
def f105.F (n:Nat) (v:Int × Int):=f105 n v.1 v.2
def f105.O (n:Nat):BJ:=AK (E:=E) [] [] n
theorem f105.ok:Bh 105 f105.P T1 f105.A f105.F:=Bi fY f105.O
def f105.w:A7 E:=BQ 105 f105.P T1 f105.A f105.F f105.ok
def f153:Nat→Nat→Option (Bool)
 | 0,_=>none
 | n+1,x1 =>
   some (Nz .f32 (BW .f32 x1 x1) 0)
def f153.P:List Ae:=[Cx]
def f153.A:Aa (Bool):=.one ⟨[CN],[none]⟩ C3
def f153.F (n:Nat) (v:Nat):=f153 n v
def f153.O (n:Nat):BJ:=AK (E:=E) [] [] n
theorem f153.ok:Bh 153 f153.P BE f153.A f153.F:=Bi fg f153.O
def f153.w:A7 E:=BQ 153 f153.P BE f153.A f153.F f153.ok
def f121:Nat→Nat→Option (Bool)
 | 0,_=>none
 | n+1,x1 =>
   bd (f153 n x1) fun r2 =>
   let b3:=r2
   br b3 (
    some (F4 .f32 x1 0)) (
    some false)
def f121.P:List Ae:=[Cx]
def f121.A:Aa (Bool):=.one ⟨[CN],[none]⟩ C3
def f121.F (n:Nat) (v:Nat):=f121 n v
def f121.O (n:Nat):BJ:=AK (E:=E) [f153.w] [] n
theorem f121.ok:Bh 121 f121.P BE f121.A f121.F:=Bi dp f121.O
def f121.w:A7 E:=BQ 121 f121.P BE f121.A f121.F f121.ok
def f102:Nat→Int→Int→Nat→List T→Option (Bool)
 | 0,_,_,_,_=>none
 | n+1,i1,i2,n3,l4 =>
   br (i1==(2:Int)) (
    br (i1==(6:Int)) (
     bd (f28 n i2 (1:Int) (32:Int)) fun r5 =>
     let b6:=r5
     br (!b6) (
      some false) (
      bd (f105 n i1 i2) fun r7 =>
      let i8:=r7.1
      br ((n3:Int)==i8) (
       br (i1 != (6:Int)) (
        some true) (
        gd ((decide ((0≤(0:Int))∧((0:Int)<(n3:Int))))&&(AI [(.flt .f32)] l4 0)) (
        bd (f121 n (BR l4 0)) fun r10 =>
        let b11:=r10
        some b11))) (
       some false))) (
     bd (f28 n i2 (1:Int) (32:Int)) fun r12 =>
     let b13:=r12
     br (!b13) (
      some false) (
      bd (f105 n i1 i2) fun r14 =>
      let i15:=r14.1
      br ((n3:Int)==i15) (
       br (i1 != (6:Int)) (
        some true) (
        gd ((decide ((0≤(0:Int))∧((0:Int)<(n3:Int))))&&(AI [(.flt .f32)] l4 0)) (
        bd (f121 n (BR l4 0)) fun r17 =>
        let b18:=r17
        some b18))) (
       some false)))) (
    br (i1==(6:Int)) (
     bd (f28 n i2 (0:Int) (32:Int)) fun r19 =>
     let b20:=r19
     br (!b20) (
      some false) (
      bd (f105 n i1 i2) fun r21 =>
      let i22:=r21.1
      br ((n3:Int)==i22) (
       br (i1 != (6:Int)) (
        some true) (
        gd ((decide ((0≤(0:Int))∧((0:Int)<(n3:Int))))&&(AI [(.flt .f32)] l4 0)) (
        bd (f121 n (BR l4 0)) fun r24 =>
        let b25:=r24
        some b25))) (
       some false))) (
     bd (f28 n i2 (0:Int) (0:Int)) fun r26 =>
     let b27:=r26
     br (!b27) (
      some false) (
      bd (f105 n i1 i2) fun r28 =>
      let i29:=r28.1
      br ((n3:Int)==i29) (
       br (i1 != (6:Int)) (
        some true) (
        gd ((decide ((0≤(0:Int))∧((0:Int)<(n3:Int))))&&(AI [(.flt .f32)] l4 0)) (
        bd (f121 n (BR l4 0)) fun r31 =>
        let b32:=r31
        some b32))) (
       some false))))
def f102.P:List Ae:=[gN]
def f102.A:Aa (Bool):=.one ⟨[CN],[none]⟩ C3
def f102.F (n:Nat) (v:Uv):=let (a,b,c,d):=v;f102 n a b c d
def f102.O (n:Nat):BJ:=AK (E:=E) [f28.w,f105.w,f121.w] [] n
theorem f102.ok:Bh 102 f102.P Gr f102.A f102.F:=Bi gi f102.O
def f102.w:A7 E:=BQ 102 f102.P Gr f102.A f102.F f102.ok
def f63.l0 (n:Nat):Nat→Nat→List T→Int→Option ((Bool) ⊕ (Nat × List T))
 | 0,_,_,_=>none
 | m+1,n1,l2,i3 =>
   br (decide (i3<(n1:Int))) (
    br (decide ((n1:Int)≤(8:Int))) (
     gd ((decide ((0≤i3)∧(i3<(n1:Int))))&&(AI [(.int .i64),(.int .i64),.lst] l2 (((Int.toNat i3) * 3)+0))) (
     bd (f102 n (Ed l2 (((Int.toNat i3) * 3)+0)) (Ed l2 ((((Int.toNat i3) * 3)+0)+1)) (GZ l2 (((((Int.toNat i3) * 3)+0)+1)+1)) (HD l2 (((((Int.toNat i3) * 3)+0)+1)+1))) fun r4 =>
     let b5:=r4
     br (!b5) (
      some (Sum.inl false)) (
      f63.l0 n m n1 l2 (IntKind.i64.wrap (i3+(1:Int)))))) (
     some (Sum.inr (n1,l2)))) (
    some (Sum.inr (n1,l2)))
def f63:Nat→Nat→List T→Option (Bool)
 | 0,_,_=>none
 | n+1,n1,l2 =>
   bd (f63.l0 n n n1 l2 (0:Int)) fun r3 =>
   sm r3 (fun u4 =>
    let b5:=u4
    some b5) (fun u6 =>
    let n7:=u6.1
    let l8:=u6.2
    some (decide ((n7:Int)≤(8:Int))))
def f63.l0.P:AS:=⟨[(0,Hu),(3,AU)],0⟩
def f63.l0.A:D7 ((Bool) ⊕ (Nat × List T)):=.or (.one .ret ⟨[(0,.dead),(2,Jm)],0⟩ C3) (.one (.exit 0) ⟨[(0,Hu),(2,.dead)],0⟩ Bg)
def f63.l0.F (n m:Nat) (v:Nat × List T × Int):=f63.l0 n m v.1 v.2.1 v.2.2
def f63.l0.W (n:Nat):ER:=.of 32 f63.l0.P Wz f63.l0.A (f63.l0.F n n)
def f63.P:List Ae:=[Uh]
def f63.A:Aa (Bool):=.one ⟨[CN],[none]⟩ C3
def f63.F (n:Nat) (v:Nat × List T):=f63 n v.1 v.2
def f63.O (n:Nat):BJ:=AK (E:=E) [f102.w] [f63.l0.W n] n
theorem f63.l0.ok:∀ n,E0 63 j9 0 n (f63.O n):=FC f63.l0.P Wz f63.l0.A f63.l0.F
theorem f63.ok:Bh 63 f63.P Bg f63.A f63.F:=Bi j9 f63.O [Ac j9 0] (fun n=>(.cons (f63.l0.ok n) .nil))
def f63.w:A7 E:=BQ 63 f63.P Bg f63.A f63.F f63.ok
def f65:Nat→Nat→List T→Option (Bool)
 | 0,_,_=>none
 | n+1,n1,l2 =>
   some (decide ((n1:Int)≤(256:Int)))
def f65.P:List Ae:=[DT]
def f65.A:Aa (Bool):=.one ⟨[CN],[none]⟩ C3
def f65.F (n:Nat) (v:Nat × List T):=f65 n v.1 v.2
def f65.O (n:Nat):BJ:=AK (E:=E) [] [] n
theorem f65.ok:Bh 65 f65.P Bg f65.A f65.F:=Bi kr f65.O
def f65.w:A7 E:=BQ 65 f65.P Bg f65.A f65.F f65.ok
def f103:Nat→Nat→Option (Bool)
 | 0,_=>none
 | n+1,x1 =>
   br (Ly .f32 x1 0) (
    some (VQ .f32 x1 1065353216)) (
    some false)
def f103.P:List Ae:=[Cx]
def f103.A:Aa (Bool):=.one ⟨[CN],[none]⟩ C3
def f103.F (n:Nat) (v:Nat):=f103 n v
def f103.O (n:Nat):BJ:=AK (E:=E) [] [] n
theorem f103.ok:Bh 103 f103.P BE f103.A f103.F:=Bi fy f103.O
def f103.w:A7 E:=BQ 103 f103.P BE f103.A f103.F f103.ok
def f64.l0 (n:Nat):Nat→Nat→List T→Int→Int→Option ((Bool) ⊕ (Nat × List T))
 | 0,_,_,_,_=>none
 | m+1,n1,l2,i3,i4 =>
   br (decide (i4<i3)) (
    gd ((decide ((0≤i4)∧(i4<(n1:Int))))&&(AI [.lst,(.int .i64),(.flt .f32),.bool,.bool] l2 (((Int.toNat i4) * 5)+0))) (
    bd (f65 n (GZ l2 (((Int.toNat i4) * 5)+0)) (HD l2 (((Int.toNat i4) * 5)+0))) fun r5 =>
    let b6:=r5
    br (!b6) (
     some (Sum.inl false)) (
     gd ((decide ((0≤i4)∧(i4<(n1:Int))))&&(AI [.lst,(.int .i64),(.flt .f32),.bool,.bool] l2 (((Int.toNat i4) * 5)+0))) (
     bd (f28 n (Ed l2 ((((Int.toNat i4) * 5)+0)+1)) (-2000:Int) (2000:Int)) fun r7 =>
     let b8:=r7
     br (!b8) (
      some (Sum.inl false)) (
      gd ((decide ((0≤i4)∧(i4<(n1:Int))))&&(AI [.lst,(.int .i64),(.flt .f32),.bool,.bool] l2 (((Int.toNat i4) * 5)+0))) (
      bd (f103 n (BR l2 (((((Int.toNat i4) * 5)+0)+1)+1))) fun r9 =>
      let b10:=r9
      br (!b10) (
       some (Sum.inl false)) (
       f64.l0 n m n1 l2 i3 (IntKind.i64.wrap (i4+(1:Int)))))))))) (
    some (Sum.inr (n1,l2)))
def f64:Nat→Nat→List T→Option (Bool)
 | 0,_,_=>none
 | n+1,n1,l2 =>
   bd (f64.l0 n n n1 l2 (n1:Int) (0:Int)) fun r3 =>
   sm r3 (fun u4 =>
    let b5:=u4
    some b5) (fun u6 =>
    let n7:=u6.1
    let l8:=u6.2
    some (decide ((n7:Int)≤(8:Int))))
def f64.l0.P:AS:=⟨[(0,Qe),(5,AU),(6,AU)],0⟩
def f64.l0.A:D7 ((Bool) ⊕ (Nat × List T)):=.or (.one .ret ⟨[(0,.dead),(2,Jm)],0⟩ C3) (.one (.exit 0) ⟨[(0,Qe),(2,.dead)],0⟩ Bg)
def f64.l0.F (n m:Nat) (v:KD):=let (a,b,c,d):=v;f64.l0 n m a b c d
def f64.l0.W (n:Nat):ER:=.of 32 f64.l0.P B5 f64.l0.A (f64.l0.F n n)
def f64.P:List Ae:=[dt]
def f64.A:Aa (Bool):=.one ⟨[CN],[none]⟩ C3
def f64.F (n:Nat) (v:Nat × List T):=f64 n v.1 v.2
def f64.O (n:Nat):BJ:=AK (E:=E) [f28.w,f65.w,f103.w] [f64.l0.W n] n
theorem f64.l0.ok:∀ n,E0 64 kf 0 n (f64.O n):=FC f64.l0.P B5 f64.l0.A f64.l0.F
theorem f64.ok:Bh 64 f64.P Bg f64.A f64.F:=Bi kf f64.O [Ac kf 0] (fun n=>(.cons (f64.l0.ok n) .nil))
def f64.w:A7 E:=BQ 64 f64.P Bg f64.A f64.F f64.ok
def f27.l0 (n:Nat):Nat→Nat→List T→Nat→List T→Int→Int→Int→Option ((Bool) ⊕ (TC))
 | 0,_,_,_,_,_,_,_=>none
 | m+1,n1,l2,n3,l4,i5,i6,i7 =>
   br (decide (i7<i6)) (
    gd ((decide ((0≤i7)∧(i7<(n3:Int))))&&(AI [.lst,(.int .i64),(.flt .f32),.bool,.bool] l4 (((Int.toNat i7) * 5)+0))) (
    bd (f62 n (GZ l4 (((Int.toNat i7) * 5)+0)) (HD l4 (((Int.toNat i7) * 5)+0)) (Ed l4 ((((Int.toNat i7) * 5)+0)+1)) (BR l4 (((((Int.toNat i7) * 5)+0)+1)+1)) (KA l4 ((((((Int.toNat i7) * 5)+0)+1)+1)+1)) (KA l4 (((((((Int.toNat i7) * 5)+0)+1)+1)+1)+1)) 0 (reps 0 [(T.flt .f32 0)])) fun r8 =>
    let n9:=r8.1
    let l10:=r8.2.1
    let i11:=r8.2.2.1
    let x12:=r8.2.2.2.1
    let b13:=r8.2.2.2.2.1
    let b14:=r8.2.2.2.2.2.1
    gd ((decide ((0≤i7)∧(i7<(n3:Int))))&&(AI [.lst,(.int .i64),(.flt .f32),.bool,.bool] l4 (((Int.toNat i7) * 5)+0))) (
    bd (f63 n (GZ l4 (((Int.toNat i7) * 5)+0)) (HD l4 (((Int.toNat i7) * 5)+0))) fun r17 =>
    let b18:=r17
    br (!b18) (
     some (Sum.inl false)) (
     bd (f64 n 1 (AF (reps 1 [(T.lst 0 []),(T.int .i64 (0:Int)),(T.flt .f32 0),(T.bool false),(T.bool false)]) 0 [(T.lst n9 l10),(T.int .i64 i11),(T.flt .f32 x12),(T.bool b13),(T.bool b14)])) fun r19 =>
     let b20:=r19
     br (!b20) (
      some (Sum.inl false)) (
      f27.l0 n m n1 l2 n3 l4 i5 i6 (IntKind.i64.wrap (i7+(1:Int)))))))) (
    some (Sum.inr (n1,l2,n3,l4,i5)))
def f27.l1 (n:Nat):Nat→Nat→List T→Nat→List T→Int→Int→Int→Option ((Bool) ⊕ (Unit))
 | 0,_,_,_,_,_,_,_=>none
 | m+1,n1,l2,n3,l4,i5,i6,i7 =>
   br (decide (i7<i6)) (
    gd ((decide ((0≤i7)∧(i7<(n1:Int))))&&(AI [(.int .i64),(.int .i64),.lst] l2 (((Int.toNat i7) * 3)+0))) (
    bd (f28 n (Ed l2 (((Int.toNat i7) * 3)+0)) (0:Int) (IntKind.i64.wrap (i5 - (1:Int)))) fun r8 =>
    let b9:=r8
    br (!b9) (
     some (Sum.inl false)) (
     gd ((decide ((0≤i7)∧(i7<(n1:Int))))&&(AI [(.int .i64),(.int .i64),.lst] l2 (((Int.toNat i7) * 3)+0))) (
     bd (f28 n (Ed l2 ((((Int.toNat i7) * 3)+0)+1)) (0:Int) (256:Int)) fun r10 =>
     let b11:=r10
     br (!b11) (
      some (Sum.inl false)) (
      gd ((decide ((0≤i7)∧(i7<(n1:Int))))&&(AI [(.int .i64),(.int .i64),.lst] l2 (((Int.toNat i7) * 3)+0))) (
      bd (f65 n (GZ l2 (((((Int.toNat i7) * 3)+0)+1)+1)) (HD l2 (((((Int.toNat i7) * 3)+0)+1)+1))) fun r12 =>
      let b13:=r12
      br (!b13) (
       some (Sum.inl false)) (
       f27.l1 n m n1 l2 n3 l4 i5 i6 (IntKind.i64.wrap (i7+(1:Int)))))))))) (
    some (Sum.inr ()))
def f27:Nat→Nat→List T→Nat→List T→Option (Bool)
 | 0,_,_,_,_=>none
 | n+1,n1,l2,n3,l4 =>
   let i5:=(n3:Int)
   bd (f28 n i5 (1:Int) (8:Int)) fun r6 =>
   let b7:=r6
   br (!b7) (
    some false) (
    br (decide ((n1:Int)>(12:Int))) (
     some false) (
     bd (f27.l0 n n n1 l2 n3 l4 i5 (n3:Int) (0:Int)) fun r8 =>
     sm r8 (fun u9 =>
      let b10:=u9
      some b10) (fun u11 =>
      let n12:=u11.1
      let l13:=u11.2.1
      let n14:=u11.2.2.1
      let l15:=u11.2.2.2.1
      let i16:=u11.2.2.2.2
      bd (f27.l1 n n n12 l13 n14 l15 i16 (n12:Int) (0:Int)) fun r17 =>
      sm r17 (fun u18 =>
       let b19:=u18
       some b19) (fun u20 =>
       some true))))
def f27.l0.P:AS:=⟨[(0,Sz),(3,AU),(27,AU),(28,AU)],0⟩
def f27.l0.A:D7 ((Bool) ⊕ (TC)):=.or (.one .ret ⟨[(0,.dead),(2,Jm),(3,.dead),(100,.dead)],0⟩ C3) (.one (.exit 0) ⟨[(0,Sz),(2,.dead),(3,AU),(100,.dead)],0⟩ HU)
def f27.l0.F (n m:Nat) (v:cL):=let (a,b,c,d,e,f,g):=v;f27.l0 n m a b c d e f g
def f27.l0.W (n:Nat):ER:=.of 80 f27.l0.P H1 f27.l0.A (f27.l0.F n n)
def f27.l1.P:AS:=⟨[(0,Sz),(3,AU),(60,AU),(61,AU)],0⟩
def f27.l1.A:D7 ((Bool) ⊕ (Unit)):=.or (.one .ret ⟨[(2,Jm)],0⟩ C3) (.one (.exit 2) ⟨[(2,.dead)],0⟩ sg)
def f27.l1.F (n m:Nat) (v:cL):=let (a,b,c,d,e,f,g):=v;f27.l1 n m a b c d e f g
def f27.l1.W (n:Nat):ER:=.of 192 f27.l1.P H1 f27.l1.A (f27.l1.F n n)
def f27.P:List Ae:=[bx]
def f27.A:Aa (Bool):=.one ⟨[CN],[none]⟩ C3
def f27.F (n:Nat) (v:Cf):=let (a,b,c,d):=v;f27 n a b c d
def f27.O (n:Nat):BJ:=AK (E:=E) [f28.w,f62.w,f63.w,f65.w,f64.w] [f27.l0.W n,f27.l1.W n] n
theorem f27.l0.ok:∀ n,E0 27 fQ 0 n (f27.O n):=FC f27.l0.P H1 f27.l0.A f27.l0.F
theorem f27.l1.ok:∀ n,E0 27 fQ 1 n (f27.O n):=FC f27.l1.P H1 f27.l1.A f27.l1.F
theorem f27.ok:Bh 27 f27.P Bl f27.A f27.F:=Bi fQ f27.O [Ac fQ 0,Ac fQ 1] (fun n=>(.cons (f27.l0.ok n) (.cons (f27.l1.ok n) .nil)))
def f27.w:A7 E:=BQ 27 f27.P Bl f27.A f27.F f27.ok
def f29:Nat→Int→Option (Bool)
 | 0,_=>none
 | n+1,i1 =>
   bd (f28 n i1 (0:Int) (256:Int)) fun r2 =>
   let b3:=r2
   some b3
def f29.P:List Ae:=[CV]
def f29.A:Aa (Bool):=.one ⟨[CN],[none]⟩ C3
def f29.F (n:Nat) (v:Int):=f29 n v
def f29.O (n:Nat):BJ:=AK (E:=E) [f28.w] [] n
theorem f29.ok:Bh 29 f29.P F9 f29.A f29.F:=Bi mL f29.O
def f29.w:A7 E:=BQ 29 f29.P F9 f29.A f29.F f29.ok
def f78:Nat→Nat→List T→Option (Nat × List T)
 | 0,_,_=>none
 | n+1,n1,l2 =>
   gd (Nat.ble (0+n1) 2147483648) (
   some ((0+n1),((reps 0 [(T.flt .f32 0)])++l2)))
def f78.P:List Ae:=[DT]
def f78.A:Aa (Nat × List T):=.one ⟨[DZ],[none]⟩ Bg
def f78.F (n:Nat) (v:Nat × List T):=f78 n v.1 v.2
def f78.O (n:Nat):BJ:=AK (E:=E) [] [] n
theorem f78.ok:Bh 78 f78.P Bg f78.A f78.F:=Bi kp f78.O
def f78.w:A7 E:=BQ 78 f78.P Bg f78.A f78.F f78.ok
def f41:Nat→Int→Int→Nat→List T→Option (Uv)
 | 0,_,_,_,_=>none
 | n+1,i1,i2,n3,l4 =>
   bd (f78 n n3 l4) fun r5 =>
   let n6:=r5.1
   let l7:=r5.2
   some (i1,i2,n6,l7)
def f41.P:List Ae:=[gN]
def f41.A:Aa (Uv):=.one ⟨[⟨true,[.leaf,.leaf,.sl .own [.leaf]],[.int .i64 0,.int .i64 0,.lst 0 []]⟩],[none]⟩ Gr
def f41.F (n:Nat) (v:Uv):=let (a,b,c,d):=v;f41 n a b c d
def f41.O (n:Nat):BJ:=AK (E:=E) [f78.w] [] n
theorem f41.ok:Bh 41 f41.P Gr f41.A f41.F:=Bi lq f41.O
def f41.w:A7 E:=BQ 41 f41.P Gr f41.A f41.F f41.ok
def f40.l0 (n:Nat):Nat→Nat→List T→Nat→List T→Nat→List T→Nat→List T→Nat→List T→Nat→List T→Int→Int→Option (Z3)
 | 0,_,_,_,_,_,_,_,_,_,_,_,_,_,_=>none
 | m+1,n1,l2,n3,l4,n5,l6,n7,l8,n9,l10,n11,l12,i13,i14 =>
   br (decide (i14<i13)) (
    gd ((decide ((0≤i14)∧(i14<(n1:Int))))&&(AI [(.int .i64),(.int .i64),.lst] l2 (((Int.toNat i14) * 3)+0))) (
    bd (f41 n (Ed l2 (((Int.toNat i14) * 3)+0)) (Ed l2 ((((Int.toNat i14) * 3)+0)+1)) (GZ l2 (((((Int.toNat i14) * 3)+0)+1)+1)) (HD l2 (((((Int.toNat i14) * 3)+0)+1)+1))) fun r15 =>
    let i16:=r15.1
    let i17:=r15.2.1
    let n18:=r15.2.2.1
    let l19:=r15.2.2.2
    gd (Nat.ble (n9+1) 2147483648) (
    let n20:=(n9+1)
    let l21:=(l10++(AF (reps 1 [(T.int .i64 (0:Int)),(T.int .i64 (0:Int)),(T.lst 0 [])]) 0 [(T.int .i64 i16),(T.int .i64 i17),(T.lst n18 l19)]))
    f40.l0 n m n1 l2 n3 l4 n5 l6 n7 l8 n20 l21 n11 l12 i13 (IntKind.i64.wrap (i14+(1:Int)))))) (
    some (n1,l2,n3,l4,n5,l6,n7,l8,n9,l10,n11,l12))
termination_by structural x=>x
def f77.l0 (n:Nat):Nat→Nat→List T→Nat→List T→Int→Int→Option (Nat × List T)
 | 0,_,_,_,_,_,_=>none
 | m+1,n1,l2,n3,l4,i5,i6 =>
   br (decide (i6<i5)) (
    gd ((decide ((0≤i6)∧(i6<(n1:Int))))&&(AI [(.int .i64),(.int .i64),.lst] l2 (((Int.toNat i6) * 3)+0))) (
    let i7:=(Ed l2 (((Int.toNat i6) * 3)+0))
    let i8:=(Ed l2 ((((Int.toNat i6) * 3)+0)+1))
    let n9:=(GZ l2 (((((Int.toNat i6) * 3)+0)+1)+1))
    let l10:=(HD l2 (((((Int.toNat i6) * 3)+0)+1)+1))
    bd (f78 n n9 l10) fun r11 =>
    let n12:=r11.1
    let l13:=r11.2
    gd (Nat.ble (n3+1) 2147483648) (
    let n14:=(n3+1)
    let l15:=(l4++(AF (reps 1 [(T.int .i64 (0:Int)),(T.int .i64 (0:Int)),(T.lst 0 [])]) 0 [(T.int .i64 i7),(T.int .i64 i8),(T.lst n12 l13)]))
    f77.l0 n m n1 l2 n14 l15 i5 (IntKind.i64.wrap (i6+(1:Int)))))) (
    some (n3,l4))
def f77:Nat→Nat→List T→Option (Nat × List T)
 | 0,_,_=>none
 | n+1,n1,l2 =>
   bd (f77.l0 n n n1 l2 0 (reps 0 [(T.int .i64 (0:Int)),(T.int .i64 (0:Int)),(T.lst 0 [])]) (n1:Int) (0:Int)) fun r3 =>
   let n4:=r3.1
   let l5:=r3.2
   some (n4,l5)
def f77.l0.P:AS:=⟨[(0,Hu),(3,XT),(8,AU),(9,AU)],0⟩
def f77.l0.A:D7 (Nat × List T):=.one (.exit 0) ⟨[(3,XT)],0⟩ Bg
def f77.l0.F (n m:Nat) (v:NC):=let (a,b,c,d,e,f):=v;f77.l0 n m a b c d e f
def f77.l0.W (n:Nat):ER:=.of 48 f77.l0.P Cc f77.l0.A (f77.l0.F n n)
def f77.P:List Ae:=[Uh]
def f77.A:Aa (Nat × List T):=.one ⟨[mR],[none]⟩ Bg
def f77.F (n:Nat) (v:Nat × List T):=f77 n v.1 v.2
def f77.O (n:Nat):BJ:=AK (E:=E) [f78.w] [f77.l0.W n] n
theorem f77.l0.ok:∀ n,E0 77 j5 0 n (f77.O n):=FC f77.l0.P Cc f77.l0.A f77.l0.F
theorem f77.ok:Bh 77 f77.P Bg f77.A f77.F:=Bi j5 f77.O [Ac j5 0] (fun n=>(.cons (f77.l0.ok n) .nil))
def f77.w:A7 E:=BQ 77 f77.P Bg f77.A f77.F f77.ok
def f40.l1 (n:Nat):Nat→Nat→List T→Nat→List T→Nat→List T→Nat→List T→Nat→List T→Nat→List T→Int→Int→Option (Vd)
 | 0,_,_,_,_,_,_,_,_,_,_,_,_,_,_=>none
 | m+1,n1,l2,n3,l4,n5,l6,n7,l8,n9,l10,n11,l12,i13,i14 =>
   br (decide (i14<i13)) (
    gd ((decide ((0≤i14)∧(i14<(n3:Int))))&&(AI [.lst,(.int .i64),(.flt .f32),.bool,.bool] l4 (((Int.toNat i14) * 5)+0))) (
    let n15:=(GZ l4 (((Int.toNat i14) * 5)+0))
    let l16:=(HD l4 (((Int.toNat i14) * 5)+0))
    let i17:=(Ed l4 ((((Int.toNat i14) * 5)+0)+1))
    let x18:=(BR l4 (((((Int.toNat i14) * 5)+0)+1)+1))
    let b19:=(KA l4 ((((((Int.toNat i14) * 5)+0)+1)+1)+1))
    let b20:=(KA l4 (((((((Int.toNat i14) * 5)+0)+1)+1)+1)+1))
    bd (f77 n n15 l16) fun r21 =>
    let n22:=r21.1
    let l23:=r21.2
    gd (Nat.ble (n11+1) 2147483648) (
    let n24:=(n11+1)
    let l25:=(l12++(AF (reps 1 [(T.lst 0 []),(T.int .i64 (0:Int)),(T.flt .f32 0),(T.bool false),(T.bool false)]) 0 [(T.lst n22 l23),(T.int .i64 i17),(T.flt .f32 x18),(T.bool b19),(T.bool b20)]))
    f40.l1 n m n1 l2 n3 l4 n5 l6 n7 l8 n9 l10 n24 l25 i13 (IntKind.i64.wrap (i14+(1:Int)))))) (
    some (n5,l6,n7,l8,n9,l10,n11,l12))
termination_by structural x=>x
def f40:Nat→Nat→List T→Nat→List T→Option (Cf)
 | 0,_,_,_,_=>none
 | n+1,n1,l2,n3,l4 =>
   bd (f40.l0 n n n1 l2 n3 l4 0 [] 0 [] 0 (reps 0 [(T.int .i64 (0:Int)),(T.int .i64 (0:Int)),(T.lst 0 [])]) 0 (reps 0 [(T.lst 0 []),(T.int .i64 (0:Int)),(T.flt .f32 0),(T.bool false),(T.bool false)]) (n1:Int) (0:Int)) fun r5 =>
   let n6:=r5.1
   let l7:=r5.2.1
   let n8:=r5.2.2.1
   let l9:=r5.2.2.2.1
   let n10:=r5.2.2.2.2.1
   let l11:=r5.2.2.2.2.2.1
   let n12:=r5.2.2.2.2.2.2.1
   let l13:=r5.2.2.2.2.2.2.2.1
   let n14:=r5.2.2.2.2.2.2.2.2.1
   let l15:=r5.2.2.2.2.2.2.2.2.2.1
   let n16:=r5.2.2.2.2.2.2.2.2.2.2.1
   let l17:=r5.2.2.2.2.2.2.2.2.2.2.2
   bd (f40.l1 n n n6 l7 n8 l9 n10 l11 n12 l13 n14 l15 n16 l17 (n8:Int) (0:Int)) fun r18 =>
   let n23:=r18.2.2.2.2.1
   let l24:=r18.2.2.2.2.2.1
   let n25:=r18.2.2.2.2.2.2.1
   let l26:=r18.2.2.2.2.2.2.2
   some (n23,l24,n25,l26)
def HQ:By (eX) where
 pk:=fun (a0,a1,a2,a3,a4,a5,a6,a7,a8,a9,a10,a11,a12,a13)=>[.lst a0 a1,.lst a2 a3,.lst a4 a5,.lst a6 a7,.lst a8 a9,.lst a10 a11,.int a12,.int a13]
 up:=fun ls=>match ls with
  | [.lst a0 a1,.lst a2 a3,.lst a4 a5,.lst a6 a7,.lst a8 a9,.lst a10 a11,.int a12,.int a13]=>some (a0,a1,a2,a3,a4,a5,a6,a7,a8,a9,a10,a11,a12,a13)
  | _=>none
def f40.l0.P:AS:=⟨[(0,Sz),(2,DR),(3,DR),(14,AU),(15,AU)],0⟩
def f40.l0.A:D7 (Z3):=.one (.exit 0) ⟨[(0,Sz),(2,DR),(3,DR),(56,.dead)],0⟩ RT
def f40.l0.F (n m:Nat) (v:eX):=let (a,b,c,d,e,f,g,h,i,j,k,l,o,p):=v;f40.l0 n m a b c d e f g h i j k l o p
def f40.l0.W (n:Nat):ER:=.of 48 f40.l0.P HQ f40.l0.A (f40.l0.F n n)
def f40.l1.P:AS:=⟨[(0,Sz),(2,DR),(3,DR),(35,AU),(36,AU)],0⟩
def f40.l1.A:D7 (Vd):=.one (.exit 2) ⟨[(2,DR),(3,DR)],0⟩ Rp
def f40.l1.F (n m:Nat) (v:eX):=let (a,b,c,d,e,f,g,h,i,j,k,l,o,p):=v;f40.l1 n m a b c d e f g h i j k l o p
def f40.l1.W (n:Nat):ER:=.of 128 f40.l1.P HQ f40.l1.A (f40.l1.F n n)
def f40.P:List Ae:=[bx]
def f40.A:Aa (Cf):=.one ⟨[Y2],[none]⟩ Bl
def f40.F (n:Nat) (v:Cf):=let (a,b,c,d):=v;f40 n a b c d
def f40.O (n:Nat):BJ:=AK (E:=E) [f41.w,f77.w] [f40.l0.W n,f40.l1.W n] n
theorem f40.l0.ok:∀ n,E0 40 eo 0 n (f40.O n):=FC f40.l0.P HQ f40.l0.A f40.l0.F
theorem f40.l1.ok:∀ n,E0 40 eo 1 n (f40.O n):=FC f40.l1.P HQ f40.l1.A f40.l1.F
theorem f40.ok:Bh 40 f40.P Bl f40.A f40.F:=Bi eo f40.O [Ac eo 0,Ac eo 1] (fun n=>(.cons (f40.l0.ok n) (.cons (f40.l1.ok n) .nil)))
def f40.w:A7 E:=BQ 40 f40.P Bl f40.A f40.F f40.ok
def f15.l0 (n:Nat):Nat→Int→Int→Nat→List T→Nat→List T→Nat→List T→Nat→List T→Nat→List T→Nat→List T→Int→Int→Option (fW)
 | 0,_,_,_,_,_,_,_,_,_,_,_,_,_,_,_,_=>none
 | m+1,i1,i2,n3,l4,n5,l6,n7,l8,n9,l10,n11,l12,n13,l14,i15,i16 =>
   br (decide (i16<i15)) (
    gd ((decide ((0≤i16)∧(i16<(n3:Int))))&&(AI [(.int .i64),(.int .i64),.lst] l4 (((Int.toNat i16) * 3)+0))) (
    br ((Ed l4 (((Int.toNat i16) * 3)+0)) != i1) (
     gd ((decide ((0≤i16)∧(i16<(n3:Int))))&&(AI [(.int .i64),(.int .i64),.lst] l4 (((Int.toNat i16) * 3)+0))) (
     bd (f41 n (Ed l4 (((Int.toNat i16) * 3)+0)) (Ed l4 ((((Int.toNat i16) * 3)+0)+1)) (GZ l4 (((((Int.toNat i16) * 3)+0)+1)+1)) (HD l4 (((((Int.toNat i16) * 3)+0)+1)+1))) fun r17 =>
     let i18:=r17.1
     let i19:=r17.2.1
     let n20:=r17.2.2.1
     let l21:=r17.2.2.2
     gd (Nat.ble (n11+1) 2147483648) (
     let n22:=(n11+1)
     let l23:=(l12++(AF (reps 1 [(T.int .i64 (0:Int)),(T.int .i64 (0:Int)),(T.lst 0 [])]) 0 [(T.int .i64 i18),(T.int .i64 i19),(T.lst n20 l21)]))
     f15.l0 n m i1 i2 n3 l4 n5 l6 n7 l8 n9 l10 n22 l23 n13 l14 i15 (IntKind.i64.wrap (i16+(1:Int)))))) (
     f15.l0 n m i1 i2 n3 l4 n5 l6 n7 l8 n9 l10 n11 l12 n13 l14 i15 (IntKind.i64.wrap (i16+(1:Int)))))) (
    some (i1,i2,n3,l4,n5,l6,n7,l8,n9,l10,n11,l12,n13,l14))
termination_by structural x=>x
def f67.l0 (n:Nat):Nat→Nat→List T→Nat→List T→Int→Option (Nat × List T)
 | 0,_,_,_,_,_=>none
 | m+1,n1,l2,n3,l4,i5 =>
   br (decide (i5<(n1:Int))) (
    gd ((decide ((0≤i5)∧(i5<(n1:Int))))&&(AI [(.int .i64),(.int .i64),.lst] l2 (((Int.toNat i5) * 3)+0))) (
    gd ((decide ((0≤i5)∧(i5<(n1:Int))))&&(AI [(.int .i64),(.int .i64),.lst] l2 (((Int.toNat i5) * 3)+0))) (
    bd (f105 n (Ed l2 (((Int.toNat i5) * 3)+0)) (Ed l2 ((((Int.toNat i5) * 3)+0)+1))) fun r6 =>
    let i8:=r6.2
    gd (decide ((0≤i8)∧(i8≤(2147483648:Int)))) (
    let n9:=(Int.toNat i8)
    let l10:=(reps (Int.toNat i8) [(T.flt .f32 0)])
    gd ((decide ((0≤i5)∧(i5<(n1:Int))))&&(AI [(.int .i64),(.int .i64),.lst] l2 (((Int.toNat i5) * 3)+0))) (
    br ((Ed l2 (((Int.toNat i5) * 3)+0))==(6:Int)) (
     gd (decide ((0≤(0:Int))∧((0:Int)<(n9:Int)))) (
     gd (Nat.ble 1 (List.length l10)) (
     let l11:=(AF l10 0 [(T.flt .f32 1065353216)])
     gd (Nat.ble (n3+1) 2147483648) (
     let n12:=(n3+1)
     let l13:=(l4++(AF (reps 1 [(T.lst 0 [])]) 0 [(T.lst n9 l11)]))
     f67.l0 n m n1 l2 n12 l13 (IntKind.i64.wrap (i5+(1:Int))))))) (
     gd (Nat.ble (n3+1) 2147483648) (
     let n14:=(n3+1)
     let l15:=(l4++(AF (reps 1 [(T.lst 0 [])]) 0 [(T.lst n9 l10)]))
     f67.l0 n m n1 l2 n14 l15 (IntKind.i64.wrap (i5+(1:Int)))))))))) (
    some (n3,l4))
def f67:Nat→Nat→List T→Option (Nat × List T)
 | 0,_,_=>none
 | n+1,n1,l2 =>
   bd (f67.l0 n n n1 l2 0 (reps 0 [(T.lst 0 [])]) (0:Int)) fun r3 =>
   let n4:=r3.1
   let l5:=r3.2
   some (n4,l5)
def f67.l0.P:AS:=⟨[(0,Hu),(3,VN),(4,AU)],0⟩
def f67.l0.A:D7 (Nat × List T):=.one (.exit 0) ⟨[(3,VN)],0⟩ Bg
def f67.l0.F (n m:Nat) (v:TC):=let (a,b,c,d,e):=v;f67.l0 n m a b c d e
def f67.l0.W (n:Nat):ER:=.of 48 f67.l0.P HU f67.l0.A (f67.l0.F n n)
def f67.P:List Ae:=[Uh]
def f67.A:Aa (Nat × List T):=.one ⟨[bX],[none]⟩ Bg
def f67.F (n:Nat) (v:Nat × List T):=f67 n v.1 v.2
def f67.O (n:Nat):BJ:=AK (E:=E) [f105.w] [f67.l0.W n] n
theorem f67.l0.ok:∀ n,E0 67 iO 0 n (f67.O n):=FC f67.l0.P HU f67.l0.A f67.l0.F
theorem f67.ok:Bh 67 f67.P Bg f67.A f67.F:=Bi iO f67.O [Ac iO 0] (fun n=>(.cons (f67.l0.ok n) .nil))
def f67.w:A7 E:=BQ 67 f67.P Bg f67.A f67.F f67.ok
def f68.l1 (n:Nat):Nat→Nat→List T→Nat→List T→Int→Int→Nat→List T→Int→Int→Nat→List T→Int→Int→Int→Int→Option (cw)
 | 0,_,_,_,_,_,_,_,_,_,_,_,_,_,_,_,_=>none
 | m+1,n1,l2,n3,l4,i5,i6,n7,l8,i9,i10,n11,l12,i13,i14,i15,i16 =>
   br (decide (i16<i15)) (
    let i17:=(IntKind.i64.wrap (i10+i16))
    br (decide (i17<i6)) (
     gd (decide ((0≤i17)∧(i17<(n7:Int)))) (
     gd (AI [(.flt .f32)] l8 (Int.toNat i17)) (
     gd ((decide ((0≤i16)∧(i16<(n11:Int))))&&(AI [(.flt .f32)] l12 (Int.toNat i16))) (
     gd (decide ((0≤i17)∧(i17<(n7:Int)))) (
     gd (Nat.ble ((Int.toNat i17)+1) (List.length l8)) (
     let l18:=(AF l8 (Int.toNat i17) [(T.flt .f32 (Au .f32 (BR l8 (Int.toNat i17)) (BR l12 (Int.toNat i16))))])
     f68.l1 n m n1 l2 n3 l4 i5 i6 n7 l18 i9 i10 n11 l12 i13 i14 i15 (IntKind.i64.wrap (i16+(1:Int))))))))) (
     f68.l1 n m n1 l2 n3 l4 i5 i6 n7 l8 i9 i10 n11 l12 i13 i14 i15 (IntKind.i64.wrap (i16+(1:Int))))) (
    some (n1,l2,n3,l4,i5,i6,n7,l8,i13,i14))
termination_by structural x=>x
def f68.l0 (n:Nat):Nat→Nat→List T→Nat→List T→Int→Int→Nat→List T→Int→Int→Option (Nat × List T)
 | 0,_,_,_,_,_,_,_,_,_,_=>none
 | m+1,n1,l2,n3,l4,i5,i6,n7,l8,i9,i10 =>
   br (decide (i10<i9)) (
    gd ((decide ((0≤i10)∧(i10<(n1:Int))))&&(AI [(.int .i64),(.int .i64),.lst] l2 (((Int.toNat i10) * 3)+0))) (
    let i11:=(Ed l2 (((Int.toNat i10) * 3)+0))
    let i12:=(Ed l2 ((((Int.toNat i10) * 3)+0)+1))
    let n13:=(GZ l2 (((((Int.toNat i10) * 3)+0)+1)+1))
    let l14:=(HD l2 (((((Int.toNat i10) * 3)+0)+1)+1))
    br (i11 != i5) (
     f68.l0 n m n1 l2 n3 l4 i5 i6 n7 l8 i9 (IntKind.i64.wrap (i10+(1:Int)))) (
     bd (f68.l1 n n n1 l2 n3 l4 i5 i6 n7 l8 i11 i12 n13 l14 i9 i10 (n13:Int) (0:Int)) fun r15 =>
     let n16:=r15.1
     let l17:=r15.2.1
     let n18:=r15.2.2.1
     let l19:=r15.2.2.2.1
     let i20:=r15.2.2.2.2.1
     let i21:=r15.2.2.2.2.2.1
     let n22:=r15.2.2.2.2.2.2.1
     let l23:=r15.2.2.2.2.2.2.2.1
     let i24:=r15.2.2.2.2.2.2.2.2.1
     let i25:=r15.2.2.2.2.2.2.2.2.2
     f68.l0 n m n16 l17 n18 l19 i20 i21 n22 l23 i24 (IntKind.i64.wrap (i25+(1:Int)))))) (
    some (n7,l8))
def f68:Nat→Nat→List T→Nat→List T→Int→Int→Option (Nat × List T)
 | 0,_,_,_,_,_,_=>none
 | n+1,n1,l2,n3,l4,i5,i6 =>
   gd (decide ((0≤i6)∧(i6≤(2147483648:Int)))) (
   let n7:=(Int.toNat i6)
   let l8:=(reps (Int.toNat i6) [(T.flt .f32 0)])
   bd (f68.l0 n n n1 l2 n3 l4 i5 i6 n7 l8 (n1:Int) (0:Int)) fun r9 =>
   let n10:=r9.1
   let l11:=r9.2
   some (n10,l11))
def Ir:By (kL) where
 pk:=fun (a0,a1,a2,a3,a4,a5,a6,a7,a8,a9,a10,a11,a12,a13,a14,a15)=>[.lst a0 a1,.lst a2 a3,.int a4,.int a5,.lst a6 a7,.int a8,.int a9,.lst a10 a11,.int a12,.int a13,.int a14,.int a15]
 up:=fun ls=>match ls with
  | [.lst a0 a1,.lst a2 a3,.int a4,.int a5,.lst a6 a7,.int a8,.int a9,.lst a10 a11,.int a12,.int a13,.int a14,.int a15]=>some (a0,a1,a2,a3,a4,a5,a6,a7,a8,a9,a10,a11,a12,a13,a14,a15)
  | _=>none
def LA:By (cw) where
 pk:=fun (a0,a1,a2,a3,a4,a5,a6,a7,a8,a9)=>[.lst a0 a1,.lst a2 a3,.int a4,.int a5,.lst a6 a7,.int a8,.int a9]
 up:=fun ls=>match ls with
  | [.lst a0 a1,.lst a2 a3,.int a4,.int a5,.lst a6 a7,.int a8,.int a9]=>some (a0,a1,a2,a3,a4,a5,a6,a7,a8,a9)
  | _=>none
def f68.l1.P:AS:=⟨[(0,Sz),(1,AU),(2,AU),(7,A3),(9,.box [.leaf,.leaf,.sl .shr [.leaf]] [.int .i64 0,.int .i64 0,.lst 0 []] [] 0),(18,AU),(19,AU),(35,AU),(36,AU)],0⟩
def f68.l1.A:D7 (cw):=.one (.exit 2) ⟨[(0,Sz),(1,AU),(2,AU),(7,A3),(18,AU),(19,AU),(59,.dead),(60,.dead)],0⟩ LA
def f68.l1.F (n m:Nat) (v:kL):=let (a,b,c,d,e,f,g,h,i,j,k,l,o,p,q,r):=v;f68.l1 n m a b c d e f g h i j k l o p q r
def f68.l1.W (n:Nat):ER:=.of 128 f68.l1.P Ir f68.l1.A (f68.l1.F n n)
def f68.l0.P:AS:=⟨[(0,Sz),(1,AU),(2,AU),(7,A3),(18,AU),(19,AU)],0⟩
def f68.l0.A:D7 (Nat × List T):=.one (.exit 0) ⟨[(7,A3)],0⟩ Bg
def f68.l0.F (n m:Nat) (v:cw):=let (a,b,c,d,e,f,g,h,i,j):=v;f68.l0 n m a b c d e f g h i j
def f68.l0.W (n:Nat):ER:=.of 48 f68.l0.P LA f68.l0.A (f68.l0.F n n)
def f68.P:List Ae:=[bx,CV,CV]
def f68.A:Aa (Nat × List T):=.one ⟨[DZ],[none,none,none]⟩ Bg
def f68.F (n:Nat) (v:NC):=let (a,b,c,d,e,f):=v;f68 n a b c d e f
def f68.O (n:Nat):BJ:=AK (E:=E) [] [f68.l1.W n,f68.l0.W n] n
theorem f68.l1.ok:∀ n,E0 68 f8 1 n (f68.O n):=FC f68.l1.P Ir f68.l1.A f68.l1.F
theorem f68.l0.ok:∀ n,E0 68 f8 0 n (f68.O n):=FC f68.l0.P LA f68.l0.A f68.l0.F [Ac f8 1] (fun n=>(.cons (f68.l1.ok n) .nil))
theorem f68.ok:Bh 68 f68.P Cc f68.A f68.F:=Bi f8 f68.O [Ac f8 0] (fun n=>(.cons (f68.l0.ok n) .nil))
def f68.w:A7 E:=BQ 68 f68.P Cc f68.A f68.F f68.ok
def f122.l0 (n:Nat):Nat→Nat→List T→Nat→Nat→List T→Int→Option (Nat × List T)
 | 0,_,_,_,_,_,_=>none
 | m+1,n1,l2,x3,n4,l5,i6 =>
   br (decide (i6<(n1:Int))) (
    gd ((decide ((0≤i6)∧(i6<(n1:Int))))&&(AI [(.flt .f32)] l2 (Int.toNat i6))) (
    gd (Nat.ble (n4+1) 2147483648) (
    let n7:=(n4+1)
    let l8:=(l5++(AF (reps 1 [(T.flt .f32 0)]) 0 [(T.flt .f32 (AM .f32 (BR l2 (Int.toNat i6)) x3))]))
    f122.l0 n m n1 l2 x3 n7 l8 (IntKind.i64.wrap (i6+(1:Int)))))) (
    some (n4,l5))
def f122:Nat→Nat→List T→Nat→Option (Nat × List T)
 | 0,_,_,_=>none
 | n+1,n1,l2,x3 =>
   bd (f122.l0 n n n1 l2 x3 0 (reps 0 [(T.flt .f32 0)]) (0:Int)) fun r4 =>
   let n5:=r4.1
   let l6:=r4.2
   some (n5,l6)
def OB:By (dw) where
 pk:=fun (a0,a1,a2,a3,a4,a5)=>[.lst a0 a1,.flt a2,.lst a3 a4,.int a5]
 up:=fun ls=>match ls with
  | [.lst a0 a1,.flt a2,.lst a3 a4,.int a5]=>some (a0,a1,a2,a3,a4,a5)
  | _=>none
def f122.l0.P:AS:=⟨[(0,DY),(1,Px),(5,A3),(6,AU)],0⟩
def f122.l0.A:D7 (Nat × List T):=.one (.exit 0) ⟨[(5,A3)],0⟩ Bg
def f122.l0.F (n m:Nat) (v:dw):=let (a,b,c,d,e,f):=v;f122.l0 n m a b c d e f
def f122.l0.W (n:Nat):ER:=.of 48 f122.l0.P OB f122.l0.A (f122.l0.F n n)
def f122.P:List Ae:=[DT,Cx]
def f122.A:Aa (Nat × List T):=.one ⟨[DZ],[none,none]⟩ Bg
def f122.F (n:Nat) (v:Nat × List T × Nat):=f122 n v.1 v.2.1 v.2.2
def f122.O (n:Nat):BJ:=AK (E:=E) [] [f122.l0.W n] n
theorem f122.l0.ok:∀ n,E0 122 av 0 n (f122.O n):=FC f122.l0.P OB f122.l0.A f122.l0.F
theorem f122.ok:Bh 122 f122.P KK f122.A f122.F:=Bi av f122.O [Ac av 0] (fun n=>(.cons (f122.l0.ok n) .nil))
def f122.w:A7 E:=BQ 122 f122.P KK f122.A f122.F f122.ok
def f119:Nat→Nat→Option (Int)
 | 0,_=>none
 | n+1,x1 =>
   br (TG .f32 x1 x1) (
    some (2143289344:Int)) (
    bd (Fs n x1) fun r2 =>
    let i3:=r2
    some (IntKind.i64.wrap i3))
def f119.P:List Ae:=[Cx]
def f119.A:Aa (Int):=.one ⟨[Ns],[none]⟩ F9
def f119.F (n:Nat) (v:Nat):=f119 n v
def f119.O (n:Nat):BJ:=AK (E:=E) [x152.w] [] n
theorem f119.ok:Bh 119 f119.P BE f119.A f119.F:=Bi fj f119.O
def f119.w:A7 E:=BQ 119 f119.P BE f119.A f119.F f119.ok
def f124:Nat→Nat→Option (Nat)
 | 0,_=>none
 | n+1,x1 =>
   bd (f119 n x1) fun r2 =>
   let i3:=r2
   br ((intBits BinOp.and .i64 i3 (2139095040:Int))==(0:Int)) (
    bd (f142 n (intBits BinOp.and .i64 i3 (2147483648:Int))) fun r4 =>
    let x5:=r4
    some x5) (
    some x1)
def f124.P:List Ae:=[Cx]
def f124.A:Aa (Nat):=.one ⟨[Fh],[none]⟩ BE
def f124.F (n:Nat) (v:Nat):=f124 n v
def f124.O (n:Nat):BJ:=AK (E:=E) [f142.w,f119.w] [] n
theorem f124.ok:Bh 124 f124.P BE f124.A f124.F:=Bi gL f124.O
def f124.w:A7 E:=BQ 124 f124.P BE f124.A f124.F f124.ok
def f172:Nat→Nat→Bool→Option (Nat)
 | 0,_,_=>none
 | n+1,x1,b2 =>
   br b2 (
    bd (f124 n x1) fun r3 =>
    let x4:=r3
    some x4) (
    some x1)
def f172.P:List Ae:=[Cx,U3]
def f172.A:Aa (Nat):=.one ⟨[Fh],[none,none]⟩ BE
def f172.F (n:Nat) (v:Nat × Bool):=f172 n v.1 v.2
def f172.O (n:Nat):BJ:=AK (E:=E) [f124.w] [] n
theorem f172.ok:Bh 172 f172.P To f172.A f172.F:=Bi eG f172.O
def f172.w:A7 E:=BQ 172 f172.P To f172.A f172.F f172.ok
def f154:Nat→Nat→Nat→Nat→Nat→Nat→Int→Bool→Nat→Nat→Nat→Nat→Nat→Option (Xs)
 | 0,_,_,_,_,_,_,_,_,_,_,_,_=>none
 | n+1,x1,x2,x3,x4,x5,i6,b7,x8,x9,x10,x11,x12 =>
   br (i6==(0:Int)) (
    let x13:=(Au .f32 (AM .f32 x1 x12) (AM .f32 x2 x8))
    let x14:=(Au .f32 x13 (AM .f32 x3 x9))
    let x15:=(BW .f32 x14 (AM .f32 x4 x10))
    let x16:=(BW .f32 x15 (AM .f32 x5 x11))
    bd (f172 n x16 b7) fun r17 =>
    let x18:=r17
    br b7 (
     bd (f124 n x12) fun r19 =>
     let x20:=r19
     bd (f124 n x8) fun r21 =>
     let x22:=r21
     bd (f124 n x18) fun r23 =>
     let x24:=r23
     bd (f124 n x10) fun r25 =>
     let x26:=r25
     some (x18,x20,x22,x24,x26)) (
     some (x18,x12,x8,x18,x10))) (
    br (i6==(1:Int)) (
     bd (f172 n (Au .f32 (AM .f32 x1 x12) x8) b7) fun r27 =>
     let x28:=r27
     let x29:=(BW .f32 (AM .f32 x2 x12) (AM .f32 x4 x28))
     let x30:=(Au .f32 x29 x9)
     let x31:=(BW .f32 (AM .f32 x3 x12) (AM .f32 x5 x28))
     br b7 (
      bd (f124 n x30) fun r32 =>
      let x33:=r32
      bd (f124 n x31) fun r34 =>
      let x35:=r34
      bd (f124 n 0) fun r36 =>
      let x37:=r36
      bd (f124 n 0) fun r38 =>
      let x39:=r38
      some (x28,x33,x35,x37,x39)) (
      some (x28,x30,x31,0,0))) (
     let x40:=(BW .f32 x12 (AM .f32 x4 x8))
     bd (f172 n (BW .f32 x40 (AM .f32 x5 x9)) b7) fun r41 =>
     let x42:=r41
     let x43:=(Au .f32 (AM .f32 x1 x42) (AM .f32 x2 x8))
     bd (f172 n (Au .f32 x43 (AM .f32 x3 x9)) b7) fun r44 =>
     let x45:=r44
     br b7 (
      bd (f124 n x42) fun r46 =>
      let x47:=r46
      bd (f124 n x8) fun r48 =>
      let x49:=r48
      bd (f124 n 0) fun r50 =>
      let x51:=r50
      bd (f124 n 0) fun r52 =>
      let x53:=r52
      some (x45,x47,x49,x51,x53)) (
      some (x45,x42,x8,0,0))))
def f154.P:List Ae:=[⟨.val,⟨false,[.rf .shr [.leaf,.leaf,.leaf,.leaf,.leaf]],[.ref [.flt .f32 0,.flt .f32 0,.flt .f32 0,.flt .f32 0,.flt .f32 0]]⟩⟩,CV,U3,cR,Cx]
def f154.A:Aa (Xs):=.one ⟨[Fh,j3],[none,none,none,none,none]⟩ Lj
def f154.F (n:Nat) (v:dh):=let (a,b,c,d,e,f,g,h,i,j,k,l):=v;f154 n a b c d e f g h i j k l
def f154.O (n:Nat):BJ:=AK (E:=E) [f124.w,f172.w] [] n
theorem f154.ok:Bh 154 f154.P EJ f154.A f154.F:=Bi dy f154.O
def f154.w:A7 E:=BQ 154 f154.P EJ f154.A f154.F f154.ok
def f123.l0 (n:Nat):Nat→Nat→Nat→Nat→Nat→Nat→Int→Bool→Nat→List T→Nat→Nat→Nat→Nat→Nat→Nat→Nat→Nat→Nat→List T→Int→Option (Yt)
 | 0,_,_,_,_,_,_,_,_,_,_,_,_,_,_,_,_,_,_,_,_=>none
 | m+1,x1,x2,x3,x4,x5,i6,b7,n8,l9,x10,x11,x12,x13,x14,x15,x16,x17,n18,l19,i20 =>
   br (decide (i20<(n8:Int))) (
    gd ((decide ((0≤i20)∧(i20<(n8:Int))))&&(AI [(.flt .f32)] l9 (Int.toNat i20))) (
    bd (f154 n x1 x2 x3 x4 x5 i6 b7 x10 x11 x12 x13 (BR l9 (Int.toNat i20))) fun r21 =>
    let x22:=r21.1
    let x23:=r21.2.1
    let x24:=r21.2.2.1
    let x25:=r21.2.2.2.1
    let x26:=r21.2.2.2.2
    gd (Nat.ble (n18+1) 2147483648) (
    let n27:=(n18+1)
    let l28:=(l19++(AF (reps 1 [(T.flt .f32 0)]) 0 [(T.flt .f32 x22)]))
    f123.l0 n m x1 x2 x3 x4 x5 i6 b7 n8 l9 x23 x24 x25 x26 x14 x15 x16 x17 n27 l28 (IntKind.i64.wrap (i20+(1:Int)))))) (
    some (x10,x11,x12,x13,x14,x15,x16,x17,n18,l19))
termination_by structural x=>x
def f123:Nat→Nat→Nat→Nat→Nat→Nat→Int→Bool→Nat→Nat→Nat→Nat→Nat→List T→Option (aR)
 | 0,_,_,_,_,_,_,_,_,_,_,_,_,_=>none
 | n+1,x1,x2,x3,x4,x5,i6,b7,x8,x9,x10,x11,n12,l13 =>
   bd (f123.l0 n n x1 x2 x3 x4 x5 i6 b7 n12 l13 x8 x9 x10 x11 0 0 0 0 0 (reps 0 [(T.flt .f32 0)]) (0:Int)) fun r14 =>
   let x15:=r14.1
   let x16:=r14.2.1
   let x17:=r14.2.2.1
   let x18:=r14.2.2.2.1
   let n23:=r14.2.2.2.2.2.2.2.2.1
   let l24:=r14.2.2.2.2.2.2.2.2.2
   some (n23,l24,x15,x16,x17,x18)
def FE:By (nZ) where
 pk:=fun (a0,a1,a2,a3,a4,a5,a6,a7,a8,a9,a10,a11,a12,a13,a14,a15,a16,a17,a18,a19)=>[.flt a0,.flt a1,.flt a2,.flt a3,.flt a4,.int a5,.bool a6,.lst a7 a8,.flt a9,.flt a10,.flt a11,.flt a12,.flt a13,.flt a14,.flt a15,.flt a16,.lst a17 a18,.int a19]
 up:=fun ls=>match ls with
  | [.flt a0,.flt a1,.flt a2,.flt a3,.flt a4,.int a5,.bool a6,.lst a7 a8,.flt a9,.flt a10,.flt a11,.flt a12,.flt a13,.flt a14,.flt a15,.flt a16,.lst a17 a18,.int a19]=>some (a0,a1,a2,a3,a4,a5,a6,a7,a8,a9,a10,a11,a12,a13,a14,a15,a16,a17,a18,a19)
  | _=>none
def f123.l0.P:AS:=⟨[(0,.val false [.rf .shr [.leaf,.leaf,.leaf,.leaf,.leaf]] [.ref [.flt .f32 0,.flt .f32 0,.flt .f32 0,.flt .f32 0,.flt .f32 0]] [] 0),(1,AU),(2,Jm),(4,DY),(8,UL),(11,UL),(12,A3),(13,AU)],0⟩
def f123.l0.A:D7 (Yt):=.one (.exit 0) ⟨[(8,UL),(11,UL),(12,A3)],0⟩ L9
def f123.l0.F (n m:Nat) (v:nZ):=let (a,b,c,d,e,f,g,h,i,j,k,l,o,p,q,r,s,t,u,v):=v;f123.l0 n m a b c d e f g h i j k l o p q r s t u v
def f123.l0.W (n:Nat):ER:=.of 48 f123.l0.P FE f123.l0.A (f123.l0.F n n)
def f123.P:List Ae:=[⟨.val,⟨false,[.rf .shr [.leaf,.leaf,.leaf,.leaf,.leaf]],[.ref [.flt .f32 0,.flt .f32 0,.flt .f32 0,.flt .f32 0,.flt .f32 0]]⟩⟩,CV,U3,cR,DT]
def f123.A:Aa (aR):=.one ⟨[DZ,j3],[none,none,none,none,none]⟩ U6
def f123.F (n:Nat) (v:fJ):=let (a,b,c,d,e,f,g,h,i,j,k,l,o):=v;f123 n a b c d e f g h i j k l o
def f123.O (n:Nat):BJ:=AK (E:=E) [f154.w] [f123.l0.W n] n
theorem f123.l0.ok:∀ n,E0 123 Y3 0 n (f123.O n):=FC f123.l0.P FE f123.l0.A f123.l0.F
theorem f123.ok:Bh 123 f123.P EL f123.A f123.F:=Bi Y3 f123.O [Ac Y3 0] (fun n=>(.cons (f123.l0.ok n) .nil))
def f123.w:A7 E:=BQ 123 f123.P EL f123.A f123.F f123.ok
def f104.l0 (n:Nat):Nat→Nat→List T→Nat→List T→Nat→List T→Nat→List T→Int→Option (Cf)
 | 0,_,_,_,_,_,_,_,_,_=>none
 | m+1,n1,l2,n3,l4,n5,l6,n7,l8,i9 =>
   br (decide (i9<(n1:Int))) (
    gd (decide ((0≤(0:Int))∧((0:Int)<(n5:Int)))) (
    gd (AI [(.flt .f32)] l6 0) (
    let x10:=(BR l6 0)
    gd ((decide ((0≤i9)∧(i9<(n1:Int))))&&(AI [(.flt .f32)] l2 (Int.toNat i9))) (
    gd ((decide ((0≤(1:Int))∧((1:Int)<(n3:Int))))&&(AI [(.flt .f32)] l4 1)) (
    gd (Nat.ble (n7+1) 2147483648) (
    let n11:=(n7+1)
    let l12:=(l8++(AF (reps 1 [(T.flt .f32 0)]) 0 [(T.flt .f32 (Au .f32 (BR l2 (Int.toNat i9)) (AM .f32 (BR l4 1) x10)))]))
    gd (decide ((0≤(1:Int))∧(((1:Int)≤(n5:Int))∧((n5:Int)≤(n5:Int))))) (
    gd (Nat.ble (0+(n5 - 1)) 2147483648) (
    gd ((decide ((0≤i9)∧(i9<(n1:Int))))&&(AI [(.flt .f32)] l2 (Int.toNat i9))) (
    gd ((decide ((0≤(0:Int))∧((0:Int)<(n3:Int))))&&(AI [(.flt .f32)] l4 0)) (
    bd (f124 n (Au .f32 (BR l2 (Int.toNat i9)) (AM .f32 (BR l4 0) x10))) fun r13 =>
    let x14:=r13
    gd (Nat.ble ((0+(n5 - 1))+1) 2147483648) (
    let n15:=((0+(n5 - 1))+1)
    let l16:=(((reps 0 [(T.flt .f32 0)])++(List.take (n5 - 1) (List.drop 1 l6)))++(AF (reps 1 [(T.flt .f32 0)]) 0 [(T.flt .f32 x14)]))
    f104.l0 n m n1 l2 n3 l4 n15 l16 n11 l12 (IntKind.i64.wrap (i9+(1:Int)))))))))))))) (
    some (n5,l6,n7,l8))
def f158:Nat→Nat→Option (Nat)
 | 0,_=>none
 | n+1,x1 =>
   br (flt .f32 x1 0) (
    some (He .f32 x1)) (
    bd (f119 n x1) fun r2 =>
    let i3:=r2
    br (i3==(2147483648:Int)) (
     some (He .f32 x1)) (
     some x1))
def f158.P:List Ae:=[Cx]
def f158.A:Aa (Nat):=.one ⟨[Fh],[none]⟩ BE
def f158.F (n:Nat) (v:Nat):=f158 n v
def f158.O (n:Nat):BJ:=AK (E:=E) [f119.w] [] n
theorem f158.ok:Bh 158 f158.P BE f158.A f158.F:=Bi eS f158.O
def f158.w:A7 E:=BQ 158 f158.P BE f158.A f158.F f158.ok
def f155:Nat→Nat→Nat→Nat→Nat→Nat→Option (Nat)
 | 0,_,_,_,_,_=>none
 | n+1,x1,x2,x3,x4,x5 =>
   bd (f158 n x5) fun r6 =>
   let x7:=r6
   br (F4 .f32 x7 x4) (
    let x8:=(BW .f32 x7 x4)
    bd (f124 n (Au .f32 x4 (AM .f32 x1 x8))) fun r9 =>
    let x10:=r9
    some x10) (
    let x11:=(BW .f32 x7 x4)
    bd (f124 n (Au .f32 x4 (AM .f32 x2 x11))) fun r12 =>
    let x13:=r12
    some x13)
def f155.P:List Ae:=[⟨.val,⟨false,[.rf .shr [.leaf,.leaf,.leaf]],[.ref [.flt .f32 0,.flt .f32 0,.flt .f32 0]]⟩⟩,Cx,Cx]
def f155.A:Aa (Nat):=.one ⟨[Fh],[none,none,none]⟩ BE
def f155.F (n:Nat) (v:Xs):=let (a,b,c,d,e):=v;f155 n a b c d e
def f155.O (n:Nat):BJ:=AK (E:=E) [f124.w,f158.w] [] n
theorem f155.ok:Bh 155 f155.P Lj f155.A f155.F:=Bi en f155.O
def f155.w:A7 E:=BQ 155 f155.P Lj f155.A f155.F f155.ok
def f156:Nat→Nat→Nat→Nat→Option (Nat)
 | 0,_,_,_=>none
 | n+1,x1,x2,x3 =>
   br (!(F4 .f32 x1 x2)) (
    some 1065353216) (
    let x4:=(fdiv .f32 (BW .f32 x1 x2) x3)
    some (fdiv .f32 (Au .f32 x2 x4) x1))
def f156.P:List Ae:=[Cx,Cx,Cx]
def f156.A:Aa (Nat):=.one ⟨[Fh],[none,none,none]⟩ BE
def f156.F (n:Nat) (v:Nat × Nat × Nat):=f156 n v.1 v.2.1 v.2.2
def f156.O (n:Nat):BJ:=AK (E:=E) [] [] n
theorem f156.ok:Bh 156 f156.P K4 f156.A f156.F:=Bi gV f156.O
def f156.w:A7 E:=BQ 156 f156.P K4 f156.A f156.F f156.ok
def f125.l0 (n:Nat):Nat→Nat→List T→Nat→List T→Nat→Nat→Nat→Nat→Nat→Nat→Nat→Nat→Nat→Nat→Nat→List T→Int→Option (Yo)
 | 0,_,_,_,_,_,_,_,_,_,_,_,_,_,_,_,_,_=>none
 | m+1,n1,l2,n3,l4,x5,x6,x7,x8,x9,x10,x11,x12,x13,x14,n15,l16,i17 =>
   br (decide (i17<(n1:Int))) (
    gd ((decide ((0≤i17)∧(i17<(n3:Int))))&&(AI [(.flt .f32)] l4 (Int.toNat i17))) (
    bd (f155 n x5 x6 x7 x7 (BR l4 (Int.toNat i17))) fun r18 =>
    let x19:=r18
    gd ((decide ((0≤i17)∧(i17<(n1:Int))))&&(AI [(.flt .f32)] l2 (Int.toNat i17))) (
    bd (f156 n x19 x8 x9) fun r20 =>
    let x21:=r20
    gd (Nat.ble (n15+1) 2147483648) (
    let n22:=(n15+1)
    let l23:=(l16++(AF (reps 1 [(T.flt .f32 0)]) 0 [(T.flt .f32 (AM .f32 (BR l2 (Int.toNat i17)) x21))]))
    f125.l0 n m n1 l2 n3 l4 x5 x6 x19 x8 x9 x10 x11 x12 x13 x14 n22 l23 (IntKind.i64.wrap (i17+(1:Int))))))) (
    some (x5,x6,x7,x8,x9,x10,x11,x12,x13,x14,n15,l16))
termination_by structural x=>x
def f125:Nat→Nat→Nat→Nat→Nat→Nat→Nat→List T→Nat→List T→Option (eN)
 | 0,_,_,_,_,_,_,_,_,_=>none
 | n+1,x1,x2,x3,x4,x5,n6,l7,n8,l9 =>
   bd (f125.l0 n n n6 l7 n8 l9 x1 x2 x3 x4 x5 0 0 0 0 0 0 (reps 0 [(T.flt .f32 0)]) (0:Int)) fun r10 =>
   let x11:=r10.1
   let x12:=r10.2.1
   let x13:=r10.2.2.1
   let x14:=r10.2.2.2.1
   let x15:=r10.2.2.2.2.1
   let n21:=r10.2.2.2.2.2.2.2.2.2.2.1
   let l22:=r10.2.2.2.2.2.2.2.2.2.2.2
   some (n21,l22,x11,x12,x13,x14,x15)
def XN:By (eN) where
 pk:=fun (a0,a1,a2,a3,a4,a5,a6)=>[.lst a0 a1,.flt a2,.flt a3,.flt a4,.flt a5,.flt a6]
 up:=fun ls=>match ls with
  | [.lst a0 a1,.flt a2,.flt a3,.flt a4,.flt a5,.flt a6]=>some (a0,a1,a2,a3,a4,a5,a6)
  | _=>none
def HP:By (jQ) where
 pk:=fun (a0,a1,a2,a3,a4,a5,a6,a7,a8,a9,a10,a11,a12,a13,a14,a15,a16)=>[.lst a0 a1,.lst a2 a3,.flt a4,.flt a5,.flt a6,.flt a7,.flt a8,.flt a9,.flt a10,.flt a11,.flt a12,.flt a13,.lst a14 a15,.int a16]
 up:=fun ls=>match ls with
  | [.lst a0 a1,.lst a2 a3,.flt a4,.flt a5,.flt a6,.flt a7,.flt a8,.flt a9,.flt a10,.flt a11,.flt a12,.flt a13,.lst a14 a15,.int a16]=>some (a0,a1,a2,a3,a4,a5,a6,a7,a8,a9,a10,a11,a12,a13,a14,a15,a16)
  | _=>none
def f125.l0.P:AS:=⟨[(1,DY),(2,DY),(3,Ss),(7,Ss),(8,A3),(9,AU)],0⟩
def f125.l0.A:D7 (Yo):=.one (.exit 0) ⟨[(3,Ss),(7,Ss),(8,A3)],0⟩ I6
def f125.l0.F (n m:Nat) (v:jQ):=let (a,b,c,d,e,f,g,h,i,j,k,l,o,p,q,r,s):=v;f125.l0 n m a b c d e f g h i j k l o p q r s
def f125.l0.W (n:Nat):ER:=.of 48 f125.l0.P HP f125.l0.A (f125.l0.F n n)
def f125.P:List Ae:=[Z9,DT,DT]
def f125.A:Aa (eN):=.one ⟨[DZ,gz],[none,none,none]⟩ XN
def f125.F (n:Nat) (v:dq):=let (a,b,c,d,e,f,g,h,i):=v;f125 n a b c d e f g h i
def f125.O (n:Nat):BJ:=AK (E:=E) [f155.w,f156.w] [f125.l0.W n] n
theorem f125.l0.ok:∀ n,E0 125 Zw 0 n (f125.O n):=FC f125.l0.P HP f125.l0.A f125.l0.F
theorem f125.ok:Bh 125 f125.P II f125.A f125.F:=Bi Zw f125.O [Ac Zw 0] (fun n=>(.cons (f125.l0.ok n) .nil))
def f125.w:A7 E:=BQ 125 f125.P II f125.A f125.F f125.ok
def f157:Nat→Nat→Nat→Option (Nat)
 | 0,_,_=>none
 | n+1,x1,x2 =>
   bd (f158 n x1) fun r3 =>
   let x4:=r3
   br (F4 .f32 x4 x2) (
    br (flt .f32 x1 0) (
     some (He .f32 x2)) (
     some x2)) (
    some x1)
def f157.P:List Ae:=[Cx,Cx]
def f157.A:Aa (Nat):=.one ⟨[Fh],[none,none]⟩ BE
def f157.F (n:Nat) (v:Nat × Nat):=f157 n v.1 v.2
def f157.O (n:Nat):BJ:=AK (E:=E) [f158.w] [] n
theorem f157.ok:Bh 157 f157.P I8 f157.A f157.F:=Bi gb f157.O
def f157.w:A7 E:=BQ 157 f157.P I8 f157.A f157.F f157.ok
def f126.l0 (n:Nat):Nat→Nat→List T→Nat→Nat→List T→Int→Option (Nat × List T)
 | 0,_,_,_,_,_,_=>none
 | m+1,n1,l2,x3,n4,l5,i6 =>
   br (decide (i6<(n1:Int))) (
    gd ((decide ((0≤i6)∧(i6<(n1:Int))))&&(AI [(.flt .f32)] l2 (Int.toNat i6))) (
    bd (f157 n (BR l2 (Int.toNat i6)) x3) fun r7 =>
    let x8:=r7
    gd (Nat.ble (n4+1) 2147483648) (
    let n9:=(n4+1)
    let l10:=(l5++(AF (reps 1 [(T.flt .f32 0)]) 0 [(T.flt .f32 x8)]))
    f126.l0 n m n1 l2 x3 n9 l10 (IntKind.i64.wrap (i6+(1:Int)))))) (
    some (n4,l5))
def f126:Nat→Nat→List T→Nat→Option (Nat × List T × Bool)
 | 0,_,_,_=>none
 | n+1,n1,l2,x3 =>
   bd (f65 n n1 l2) fun r4 =>
   let b5:=r4
   br (!b5) (
    some (0,[],false)) (
    bd (f126.l0 n n n1 l2 x3 0 (reps 0 [(T.flt .f32 0)]) (0:Int)) fun r6 =>
    let n7:=r6.1
    let l8:=r6.2
    some (n7,l8,true))
def f126.l0.P:AS:=⟨[(0,DY),(1,Px),(6,A3),(7,AU)],0⟩
def f126.l0.A:D7 (Nat × List T):=.one (.exit 0) ⟨[(6,A3)],0⟩ Bg
def f126.l0.F (n m:Nat) (v:dw):=let (a,b,c,d,e,f):=v;f126.l0 n m a b c d e f
def f126.l0.W (n:Nat):ER:=.of 80 f126.l0.P OB f126.l0.A (f126.l0.F n n)
def f126.P:List Ae:=[DT,Cx]
def f126.A:Aa (Nat × List T × Bool):=.one ⟨[DZ,CN],[none,none]⟩ RI
def f126.F (n:Nat) (v:Nat × List T × Nat):=f126 n v.1 v.2.1 v.2.2
def f126.O (n:Nat):BJ:=AK (E:=E) [f65.w,f157.w] [f126.l0.W n] n
theorem f126.l0.ok:∀ n,E0 126 aG 0 n (f126.O n):=FC f126.l0.P OB f126.l0.A f126.l0.F
theorem f126.ok:Bh 126 f126.P KK f126.A f126.F:=Bi aG f126.O [Ac aG 0] (fun n=>(.cons (f126.l0.ok n) .nil))
def f126.w:A7 E:=BQ 126 f126.P KK f126.A f126.F f126.ok
def f127:Nat→Nat→Option (Nat)
 | 0,_=>none
 | n+1,x1 =>
   br (Ly .f32 x1 1065353216) (
    some 1065353216) (
    br (VQ .f32 x1 3212836864) (
     some 3212836864) (
     let x2:=(AM .f32 1056964608 (AM .f32 x1 x1))
     some (AM .f32 x1 (BW .f32 1069547520 x2))))
def f127.P:List Ae:=[Cx]
def f127.A:Aa (Nat):=.one ⟨[Fh],[none]⟩ BE
def f127.F (n:Nat) (v:Nat):=f127 n v
def f127.O (n:Nat):BJ:=AK (E:=E) [] [] n
theorem f127.ok:Bh 127 f127.P BE f127.A f127.F:=Bi dj f127.O
def f127.w:A7 E:=BQ 127 f127.P BE f127.A f127.F f127.ok
def f104.l1 (n:Nat):Nat→Nat→List T→Nat→List T→Int→Option (Nat × List T)
 | 0,_,_,_,_,_=>none
 | m+1,n1,l2,n3,l4,i5 =>
   br (decide (i5<(n1:Int))) (
    gd ((decide ((0≤i5)∧(i5<(n1:Int))))&&(AI [(.flt .f32)] l2 (Int.toNat i5))) (
    bd (f127 n (BR l2 (Int.toNat i5))) fun r6 =>
    let x7:=r6
    gd (Nat.ble (n3+1) 2147483648) (
    let n8:=(n3+1)
    let l9:=(l4++(AF (reps 1 [(T.flt .f32 0)]) 0 [(T.flt .f32 x7)]))
    f104.l1 n m n1 l2 n8 l9 (IntKind.i64.wrap (i5+(1:Int)))))) (
    some (n3,l4))
def f128.l1 (n:Nat):Nat→Nat→List T→Nat→Nat→Nat→Nat→List T→Nat→Nat→Nat→Nat→List T→Nat→List T→Nat→List T→Int→Nat→Int→Option (nB)
 | 0,_,_,_,_,_,_,_,_,_,_,_,_,_,_,_,_,_,_,_=>none
 | m+1,n1,l2,x3,x4,x5,n6,l7,x8,x9,x10,n11,l12,n13,l14,n15,l16,i17,x18,i19 =>
   br (decide (i19<(n13:Int))) (
    gd (decide ((0≤i19)∧(i19<(n13:Int)))) (
    gd (AI [(.flt .f32)] l14 (Int.toNat i19)) (
    bd (f158 n (BR l14 (Int.toNat i19))) fun r20 =>
    let x21:=r20
    br (F4 .f32 x21 x18) (
     gd (decide ((0≤i19)∧(i19<(n13:Int)))) (
     gd (AI [(.flt .f32)] l14 (Int.toNat i19)) (
     bd (f158 n (BR l14 (Int.toNat i19))) fun r22 =>
     let x23:=r22
     f128.l1 n m n1 l2 x3 x4 x5 n6 l7 x8 x9 x10 n11 l12 n13 l14 n15 l16 i17 x23 (IntKind.i64.wrap (i19+(1:Int)))))) (
     f128.l1 n m n1 l2 x3 x4 x5 n6 l7 x8 x9 x10 n11 l12 n13 l14 n15 l16 i17 x18 (IntKind.i64.wrap (i19+(1:Int))))))) (
    some (n1,l2,x3,x4,x5,n6,l7,x8,x9,x10,n11,l12,n13,l14,n15,l16,i17,x18))
termination_by structural x=>x
def f128.l0 (n:Nat):Nat→Nat→List T→Nat→Nat→Nat→Nat→List T→Nat→Nat→Nat→Nat→List T→Nat→List T→Nat→List T→Int→Option (gX)
 | 0,_,_,_,_,_,_,_,_,_,_,_,_,_,_,_,_,_=>none
 | m+1,n1,l2,x3,x4,x5,n6,l7,x8,x9,x10,n11,l12,n13,l14,n15,l16,i17 =>
   br (decide (i17<(n1:Int))) (
    gd ((decide ((0≤i17)∧(i17<(n1:Int))))&&(AI [(.flt .f32)] l2 (Int.toNat i17))) (
    gd (Nat.ble (n13+1) 2147483648) (
    let n18:=(n13+1)
    let l19:=(l14++(AF (reps 1 [(T.flt .f32 0)]) 0 [(T.flt .f32 (BR l2 (Int.toNat i17)))]))
    bd (f128.l1 n n n1 l2 x3 x4 x5 n6 l7 x8 x9 x10 n11 l12 n18 l19 n15 l16 i17 0 (0:Int)) fun r20 =>
    let n21:=r20.1
    let l22:=r20.2.1
    let x23:=r20.2.2.1
    let x24:=r20.2.2.2.1
    let x25:=r20.2.2.2.2.1
    let n26:=r20.2.2.2.2.2.1
    let l27:=r20.2.2.2.2.2.2.1
    let x28:=r20.2.2.2.2.2.2.2.1
    let x29:=r20.2.2.2.2.2.2.2.2.1
    let x30:=r20.2.2.2.2.2.2.2.2.2.1
    let n31:=r20.2.2.2.2.2.2.2.2.2.2.1
    let l32:=r20.2.2.2.2.2.2.2.2.2.2.2.1
    let n33:=r20.2.2.2.2.2.2.2.2.2.2.2.2.1
    let l34:=r20.2.2.2.2.2.2.2.2.2.2.2.2.2.1
    let n35:=r20.2.2.2.2.2.2.2.2.2.2.2.2.2.2.1
    let l36:=r20.2.2.2.2.2.2.2.2.2.2.2.2.2.2.2.1
    let i37:=r20.2.2.2.2.2.2.2.2.2.2.2.2.2.2.2.2.1
    let x38:=r20.2.2.2.2.2.2.2.2.2.2.2.2.2.2.2.2.2
    br (F4 .f32 x38 x23) (
     let x39:=(fdiv .f32 x23 x38)
     let x40:=(Au .f32 x25 x24)
     br (flt .f32 x39 x40) (
      gd (decide ((0≤(0:Int))∧((0:Int)<(n33:Int)))) (
      gd (AI [(.flt .f32)] l34 0) (
      bd (f157 n (AM .f32 (BR l34 0) x39) x23) fun r41 =>
      let x42:=r41
      gd (Nat.ble (n35+1) 2147483648) (
      let n43:=(n35+1)
      let l44:=(l36++(AF (reps 1 [(T.flt .f32 0)]) 0 [(T.flt .f32 x42)]))
      gd (decide ((0≤(1:Int))∧(((1:Int)≤(n33:Int))∧((n33:Int)≤(n33:Int))))) (
      gd (Nat.ble (0+(n33 - 1)) 2147483648) (
      let n45:=(0+(n33 - 1))
      let l46:=((reps 0 [(T.flt .f32 0)])++(List.take (n33 - 1) (List.drop 1 l34)))
      f128.l0 n m n21 l22 x23 x24 x39 n26 l27 x28 x29 x30 n31 l32 n45 l46 n43 l44 (IntKind.i64.wrap (i37+(1:Int))))))))) (
      br (TG .f32 x40 x40) (
       gd (decide ((0≤(0:Int))∧((0:Int)<(n33:Int)))) (
       gd (AI [(.flt .f32)] l34 0) (
       bd (f157 n (AM .f32 (BR l34 0) x39) x23) fun r47 =>
       let x48:=r47
       gd (Nat.ble (n35+1) 2147483648) (
       let n49:=(n35+1)
       let l50:=(l36++(AF (reps 1 [(T.flt .f32 0)]) 0 [(T.flt .f32 x48)]))
       gd (decide ((0≤(1:Int))∧(((1:Int)≤(n33:Int))∧((n33:Int)≤(n33:Int))))) (
       gd (Nat.ble (0+(n33 - 1)) 2147483648) (
       let n51:=(0+(n33 - 1))
       let l52:=((reps 0 [(T.flt .f32 0)])++(List.take (n33 - 1) (List.drop 1 l34)))
       f128.l0 n m n21 l22 x23 x24 x39 n26 l27 x28 x29 x30 n31 l32 n51 l52 n49 l50 (IntKind.i64.wrap (i37+(1:Int))))))))) (
       gd (decide ((0≤(0:Int))∧((0:Int)<(n33:Int)))) (
       gd (AI [(.flt .f32)] l34 0) (
       bd (f157 n (AM .f32 (BR l34 0) x40) x23) fun r53 =>
       let x54:=r53
       gd (Nat.ble (n35+1) 2147483648) (
       let n55:=(n35+1)
       let l56:=(l36++(AF (reps 1 [(T.flt .f32 0)]) 0 [(T.flt .f32 x54)]))
       gd (decide ((0≤(1:Int))∧(((1:Int)≤(n33:Int))∧((n33:Int)≤(n33:Int))))) (
       gd (Nat.ble (0+(n33 - 1)) 2147483648) (
       let n57:=(0+(n33 - 1))
       let l58:=((reps 0 [(T.flt .f32 0)])++(List.take (n33 - 1) (List.drop 1 l34)))
       f128.l0 n m n21 l22 x23 x24 x40 n26 l27 x28 x29 x30 n31 l32 n57 l58 n55 l56 (IntKind.i64.wrap (i37+(1:Int))))))))))) (
     let x59:=(Au .f32 x25 x24)
     br (flt .f32 1065353216 x59) (
      gd (decide ((0≤(0:Int))∧((0:Int)<(n33:Int)))) (
      gd (AI [(.flt .f32)] l34 0) (
      bd (f157 n (AM .f32 (BR l34 0) 1065353216) x23) fun r60 =>
      let x61:=r60
      gd (Nat.ble (n35+1) 2147483648) (
      let n62:=(n35+1)
      let l63:=(l36++(AF (reps 1 [(T.flt .f32 0)]) 0 [(T.flt .f32 x61)]))
      gd (decide ((0≤(1:Int))∧(((1:Int)≤(n33:Int))∧((n33:Int)≤(n33:Int))))) (
      gd (Nat.ble (0+(n33 - 1)) 2147483648) (
      let n64:=(0+(n33 - 1))
      let l65:=((reps 0 [(T.flt .f32 0)])++(List.take (n33 - 1) (List.drop 1 l34)))
      f128.l0 n m n21 l22 x23 x24 1065353216 n26 l27 x28 x29 x30 n31 l32 n64 l65 n62 l63 (IntKind.i64.wrap (i37+(1:Int))))))))) (
      br (TG .f32 x59 x59) (
       gd (decide ((0≤(0:Int))∧((0:Int)<(n33:Int)))) (
       gd (AI [(.flt .f32)] l34 0) (
       bd (f157 n (AM .f32 (BR l34 0) 1065353216) x23) fun r66 =>
       let x67:=r66
       gd (Nat.ble (n35+1) 2147483648) (
       let n68:=(n35+1)
       let l69:=(l36++(AF (reps 1 [(T.flt .f32 0)]) 0 [(T.flt .f32 x67)]))
       gd (decide ((0≤(1:Int))∧(((1:Int)≤(n33:Int))∧((n33:Int)≤(n33:Int))))) (
       gd (Nat.ble (0+(n33 - 1)) 2147483648) (
       let n70:=(0+(n33 - 1))
       let l71:=((reps 0 [(T.flt .f32 0)])++(List.take (n33 - 1) (List.drop 1 l34)))
       f128.l0 n m n21 l22 x23 x24 1065353216 n26 l27 x28 x29 x30 n31 l32 n70 l71 n68 l69 (IntKind.i64.wrap (i37+(1:Int))))))))) (
       gd (decide ((0≤(0:Int))∧((0:Int)<(n33:Int)))) (
       gd (AI [(.flt .f32)] l34 0) (
       bd (f157 n (AM .f32 (BR l34 0) x59) x23) fun r72 =>
       let x73:=r72
       gd (Nat.ble (n35+1) 2147483648) (
       let n74:=(n35+1)
       let l75:=(l36++(AF (reps 1 [(T.flt .f32 0)]) 0 [(T.flt .f32 x73)]))
       gd (decide ((0≤(1:Int))∧(((1:Int)≤(n33:Int))∧((n33:Int)≤(n33:Int))))) (
       gd (Nat.ble (0+(n33 - 1)) 2147483648) (
       let n76:=(0+(n33 - 1))
       let l77:=((reps 0 [(T.flt .f32 0)])++(List.take (n33 - 1) (List.drop 1 l34)))
       f128.l0 n m n21 l22 x23 x24 x59 n26 l27 x28 x29 x30 n31 l32 n76 l77 n74 l75 (IntKind.i64.wrap (i37+(1:Int)))))))))))))) (
    some (x3,x4,x5,n6,l7,x8,x9,x10,n11,l12,n13,l14,n15,l16))
termination_by structural x=>x
def f128:Nat→Nat→Nat→Nat→Nat→List T→Nat→List T→Option (ZU)
 | 0,_,_,_,_,_,_,_=>none
 | n+1,x1,x2,x3,n4,l5,n6,l7 =>
   bd (f65 n n6 l7) fun r8 =>
   let b9:=r8
   br (!b9) (
    some (0,[],0,0,0,0,[],false)) (
    bd (f121 n x1) fun r10 =>
    let b11:=r10
    br (!b11) (
     some (0,[],0,0,0,0,[],false)) (
     br (decide ((n4:Int)>(64:Int))) (
      some (0,[],0,0,0,0,[],false)) (
      gd (Nat.ble (0+n4) 2147483648) (
      let n12:=(0+n4)
      let l13:=((reps 0 [(T.flt .f32 0)])++l5)
      bd (f128.l0 n n n6 l7 x1 x2 x3 n4 l5 0 0 0 0 [] n12 l13 0 (reps 0 [(T.flt .f32 0)]) (0:Int)) fun r14 =>
      let x15:=r14.1
      let x16:=r14.2.1
      let x17:=r14.2.2.1
      let n25:=r14.2.2.2.2.2.2.2.2.2.2.1
      let l26:=r14.2.2.2.2.2.2.2.2.2.2.2.1
      let n27:=r14.2.2.2.2.2.2.2.2.2.2.2.2.1
      let l28:=r14.2.2.2.2.2.2.2.2.2.2.2.2.2
      some (n27,l28,x15,x16,x17,n25,l26,true)))))
def HI:By (nW) where
 pk:=fun (a0,a1,a2,a3,a4,a5,a6,a7,a8,a9,a10,a11,a12,a13,a14,a15,a16,a17,a18)=>[.lst a0 a1,.flt a2,.flt a3,.flt a4,.lst a5 a6,.flt a7,.flt a8,.flt a9,.lst a10 a11,.lst a12 a13,.lst a14 a15,.int a16,.flt a17,.int a18]
 up:=fun ls=>match ls with
  | [.lst a0 a1,.flt a2,.flt a3,.flt a4,.lst a5 a6,.flt a7,.flt a8,.flt a9,.lst a10 a11,.lst a12 a13,.lst a14 a15,.int a16,.flt a17,.int a18]=>some (a0,a1,a2,a3,a4,a5,a6,a7,a8,a9,a10,a11,a12,a13,a14,a15,a16,a17,a18)
  | _=>none
def Mt:By (nB) where
 pk:=fun (a0,a1,a2,a3,a4,a5,a6,a7,a8,a9,a10,a11,a12,a13,a14,a15,a16,a17)=>[.lst a0 a1,.flt a2,.flt a3,.flt a4,.lst a5 a6,.flt a7,.flt a8,.flt a9,.lst a10 a11,.lst a12 a13,.lst a14 a15,.int a16,.flt a17]
 up:=fun ls=>match ls with
  | [.lst a0 a1,.flt a2,.flt a3,.flt a4,.lst a5 a6,.flt a7,.flt a8,.flt a9,.lst a10 a11,.lst a12 a13,.lst a14 a15,.int a16,.flt a17]=>some (a0,a1,a2,a3,a4,a5,a6,a7,a8,a9,a10,a11,a12,a13,a14,a15,a16,a17)
  | _=>none
def Iq:By (jk) where
 pk:=fun (a0,a1,a2,a3,a4,a5,a6,a7,a8,a9,a10,a11,a12,a13,a14,a15,a16)=>[.lst a0 a1,.flt a2,.flt a3,.flt a4,.lst a5 a6,.flt a7,.flt a8,.flt a9,.lst a10 a11,.lst a12 a13,.lst a14 a15,.int a16]
 up:=fun ls=>match ls with
  | [.lst a0 a1,.flt a2,.flt a3,.flt a4,.lst a5 a6,.flt a7,.flt a8,.flt a9,.lst a10 a11,.lst a12 a13,.lst a14 a15,.int a16]=>some (a0,a1,a2,a3,a4,a5,a6,a7,a8,a9,a10,a11,a12,a13,a14,a15,a16)
  | _=>none
def Qc:By (gX) where
 pk:=fun (a0,a1,a2,a3,a4,a5,a6,a7,a8,a9,a10,a11,a12,a13)=>[.flt a0,.flt a1,.flt a2,.lst a3 a4,.flt a5,.flt a6,.flt a7,.lst a8 a9,.lst a10 a11,.lst a12 a13]
 up:=fun ls=>match ls with
  | [.flt a0,.flt a1,.flt a2,.lst a3 a4,.flt a5,.flt a6,.flt a7,.lst a8 a9,.lst a10 a11,.lst a12 a13]=>some (a0,a1,a2,a3,a4,a5,a6,a7,a8,a9,a10,a11,a12,a13)
  | _=>none
def f128.l1.P:AS:=⟨[(1,DY),(2,XM),(5,Yb),(7,A3),(8,A3),(9,AU),(10,Px),(11,AU)],0⟩
def f128.l1.A:D7 (nB):=.one (.exit 2) ⟨[(1,DY),(2,XM),(5,Yb),(7,A3),(8,A3),(9,AU),(10,Px)],0⟩ Mt
def f128.l1.F (n m:Nat) (v:nW):=let (a,b,c,d,e,f,g,h,i,j,k,l,o,p,q,r,s,t,u):=v;f128.l1 n m a b c d e f g h i j k l o p q r s t u
def f128.l1.W (n:Nat):ER:=.of 176 f128.l1.P HI f128.l1.A (f128.l1.F n n)
def f128.l0.P:AS:=⟨[(1,DY),(2,XM),(5,Yb),(7,A3),(8,A3),(9,AU)],0⟩
def f128.l0.A:D7 (gX):=.one (.exit 0) ⟨[(2,XM),(5,Yb),(7,A3),(8,A3)],0⟩ Qc
def f128.l0.F (n m:Nat) (v:jk):=let (a,b,c,d,e,f,g,h,i,j,k,l,o,p,q,r,s):=v;f128.l0 n m a b c d e f g h i j k l o p q r s
def f128.l0.W (n:Nat):ER:=.of 96 f128.l0.P Iq f128.l0.A (f128.l0.F n n)
def f128.P:List Ae:=[⟨.val,⟨true,[.leaf,.leaf,.leaf,.sl .shr [.leaf]],[.flt .f32 0,.flt .f32 0,.flt .f32 0,.lst 0 []]⟩⟩,DT]
def f128.A:Aa (ZU):=.one ⟨[DZ,⟨true,[.leaf,.leaf,.leaf,.sl .own [.leaf]],[.flt .f32 0,.flt .f32 0,.flt .f32 0,.lst 0 []]⟩,CN],[none,none]⟩ RP
def f128.F (n:Nat) (v:er):=let (a,b,c,d,e,f,g):=v;f128 n a b c d e f g
def f128.O (n:Nat):BJ:=AK (E:=E) [f121.w,f65.w,f158.w,f157.w] [f128.l1.W n,f128.l0.W n] n
theorem f128.l1.ok:∀ n,E0 128 Vg 1 n (f128.O n):=FC f128.l1.P HI f128.l1.A f128.l1.F
theorem f128.l0.ok:∀ n,E0 128 Vg 0 n (f128.O n):=FC f128.l0.P Iq f128.l0.A f128.l0.F [Ac Vg 1] (fun n=>(.cons (f128.l1.ok n) .nil))
theorem f128.ok:Bh 128 f128.P L6 f128.A f128.F:=Bi Vg f128.O [Ac Vg 0] (fun n=>(.cons (f128.l0.ok n) .nil))
def f128.w:A7 E:=BQ 128 f128.P L6 f128.A f128.F f128.ok
def f104:Nat→Int→Int→Nat→List T→Nat→List T→Nat→List T→Option (Cf)
 | 0,_,_,_,_,_,_,_,_=>none
 | n+1,i1,i2,n3,l4,n5,l6,n7,l8 =>
   br (i1==(0:Int)) (
    gd ((decide ((0≤(0:Int))∧((0:Int)<(n3:Int))))&&(AI [(.flt .f32)] l4 0)) (
    bd (f122 n n7 l8 (BR l4 0)) fun r9 =>
    let n10:=r9.1
    let l11:=r9.2
    some (n10,l11,0,(reps 0 [(T.flt .f32 0)])))) (
    br (i1==(1:Int)) (
     gd ((decide ((0≤(0:Int))∧((0:Int)<(n3:Int))))&&(AI [(.flt .f32)] l4 0)) (
     gd ((decide ((0≤(1:Int))∧((1:Int)<(n3:Int))))&&(AI [(.flt .f32)] l4 1)) (
     gd ((decide ((0≤(2:Int))∧((2:Int)<(n3:Int))))&&(AI [(.flt .f32)] l4 2)) (
     gd ((decide ((0≤(3:Int))∧((3:Int)<(n3:Int))))&&(AI [(.flt .f32)] l4 3)) (
     gd ((decide ((0≤(4:Int))∧((4:Int)<(n3:Int))))&&(AI [(.flt .f32)] l4 4)) (
     let x12:=(BR l4 0)
     let x13:=(BR l4 1)
     let x14:=(BR l4 2)
     let x15:=(BR l4 3)
     let x16:=(BR l4 4)
     gd ((decide ((0≤(0:Int))∧((0:Int)<(n5:Int))))&&(AI [(.flt .f32)] l6 0)) (
     gd ((decide ((0≤(1:Int))∧((1:Int)<(n5:Int))))&&(AI [(.flt .f32)] l6 1)) (
     bd (f123 n x12 x13 x14 x15 x16 (1:Int) true (BR l6 0) (BR l6 1) 0 0 n7 l8) fun r17 =>
     let n18:=r17.1
     let l19:=r17.2.1
     let x20:=r17.2.2.1
     let x21:=r17.2.2.2.1
     some (n18,l19,2,(AF (AF (reps 2 [(T.flt .f32 0)]) 0 [(T.flt .f32 x20)]) 1 [(T.flt .f32 x21)])))))))))) (
     br (i1==(2:Int)) (
      gd (Nat.ble (0+n5) 2147483648) (
      let n24:=(0+n5)
      let l25:=((reps 0 [(T.flt .f32 0)])++l6)
      bd (f104.l0 n n n7 l8 n3 l4 n24 l25 0 (reps 0 [(T.flt .f32 0)]) (0:Int)) fun r26 =>
      let n27:=r26.1
      let l28:=r26.2.1
      let n29:=r26.2.2.1
      let l30:=r26.2.2.2
      some (n29,l30,n27,l28))) (
      br (i1==(3:Int)) (
       gd ((decide ((0≤(0:Int))∧((0:Int)<(n3:Int))))&&(AI [(.flt .f32)] l4 0)) (
       gd ((decide ((0≤(1:Int))∧((1:Int)<(n3:Int))))&&(AI [(.flt .f32)] l4 1)) (
       gd ((decide ((0≤(0:Int))∧((0:Int)<(n5:Int))))&&(AI [(.flt .f32)] l6 0)) (
       gd ((decide ((0≤(2:Int))∧((2:Int)<(n3:Int))))&&(AI [(.flt .f32)] l4 2)) (
       gd ((decide ((0≤(3:Int))∧((3:Int)<(n3:Int))))&&(AI [(.flt .f32)] l4 3)) (
       let x31:=(BR l4 0)
       let x32:=(BR l4 1)
       let x33:=(BR l6 0)
       let x34:=(BR l4 2)
       let x35:=(BR l4 3)
       bd (f125 n x31 x32 x33 x34 x35 n7 l8 n7 l8) fun r36 =>
       let n37:=r36.1
       let l38:=r36.2.1
       let x41:=r36.2.2.2.2.1
       some (n37,l38,1,(AF (reps 1 [(T.flt .f32 0)]) 0 [(T.flt .f32 x41)])))))))) (
       br (i1==(4:Int)) (
        gd ((decide ((0≤(0:Int))∧((0:Int)<(n3:Int))))&&(AI [(.flt .f32)] l4 0)) (
        bd (f126 n n7 l8 (BR l4 0)) fun r44 =>
        let n45:=r44.1
        let l46:=r44.2.1
        some (n45,l46,0,(reps 0 [(T.flt .f32 0)])))) (
        br (i1==(5:Int)) (
         bd (f104.l1 n n n7 l8 0 (reps 0 [(T.flt .f32 0)]) (0:Int)) fun r48 =>
         let n49:=r48.1
         let l50:=r48.2
         some (n49,l50,0,(reps 0 [(T.flt .f32 0)]))) (
         gd ((decide ((0≤(0:Int))∧((0:Int)<(n3:Int))))&&(AI [(.flt .f32)] l4 0)) (
         gd ((decide ((0≤(1:Int))∧((1:Int)<(n3:Int))))&&(AI [(.flt .f32)] l4 1)) (
         gd ((decide ((0≤(0:Int))∧((0:Int)<(n5:Int))))&&(AI [(.flt .f32)] l6 0)) (
         gd (decide ((0≤(1:Int))∧(((1:Int)≤(n5:Int))∧((n5:Int)≤(n5:Int))))) (
         let x51:=(BR l4 0)
         let x52:=(BR l4 1)
         let x53:=(BR l6 0)
         let n54:=(n5 - 1)
         let l55:=(List.take (n5 - 1) (List.drop 1 l6))
         bd (f128 n x51 x52 x53 n54 l55 n7 l8) fun r56 =>
         let n57:=r56.1
         let l58:=r56.2.1
         let x61:=r56.2.2.2.2.1
         let n62:=r56.2.2.2.2.2.1
         let l63:=r56.2.2.2.2.2.2.1
         gd (Nat.ble (1+n62) 2147483648) (
         some (n57,l58,(1+n62),((AF (reps 1 [(T.flt .f32 0)]) 0 [(T.flt .f32 x61)])++l63)))))))))))))
def MK:By (gC) where
 pk:=fun (a0,a1,a2,a3,a4,a5,a6,a7,a8)=>[.lst a0 a1,.lst a2 a3,.lst a4 a5,.lst a6 a7,.int a8]
 up:=fun ls=>match ls with
  | [.lst a0 a1,.lst a2 a3,.lst a4 a5,.lst a6 a7,.int a8]=>some (a0,a1,a2,a3,a4,a5,a6,a7,a8)
  | _=>none
def f104.l0.P:AS:=⟨[(2,DY),(8,DY),(12,A3),(13,A3),(14,AU)],0⟩
def f104.l0.A:D7 (Cf):=.one (.exit 1) ⟨[(12,A3),(13,A3)],0⟩ Bl
def f104.l0.F (n m:Nat) (v:gC):=let (a,b,c,d,e,f,g,h,i):=v;f104.l0 n m a b c d e f g h i
def f104.l0.W (n:Nat):ER:=.of 208 f104.l0.P MK f104.l0.A (f104.l0.F n n)
def f104.l1.P:AS:=⟨[(2,DY),(21,A3),(22,AU)],0⟩
def f104.l1.A:D7 (Nat × List T):=.one (.exit 3) ⟨[(21,A3)],0⟩ Bg
def f104.l1.F (n m:Nat) (v:TC):=let (a,b,c,d,e):=v;f104.l1 n m a b c d e
def f104.l1.W (n:Nat):ER:=.of 464 f104.l1.P HU f104.l1.A (f104.l1.F n n)
def f104.P:List Ae:=[gN,DT,DT]
def f104.A:Aa (Cf):=.one ⟨[DZ,DZ],[none,none,none]⟩ Bl
def f104.F (n:Nat) (v:fw):=let (a,b,c,d,e,f,g,h):=v;f104 n a b c d e f g h
def f104.O (n:Nat):BJ:=AK (E:=E) [f122.w,f124.w,f123.w,f125.w,f126.w,f127.w,f128.w] [f104.l0.W n,f104.l1.W n] n
theorem f104.l0.ok:∀ n,E0 104 VU 0 n (f104.O n):=FC f104.l0.P MK f104.l0.A f104.l0.F
theorem f104.l1.ok:∀ n,E0 104 VU 1 n (f104.O n):=FC f104.l1.P HU f104.l1.A f104.l1.F
theorem f104.ok:Bh 104 f104.P LS f104.A f104.F:=Bi VU f104.O [Ac VU 0,Ac VU 1] (fun n=>(.cons (f104.l0.ok n) (.cons (f104.l1.ok n) .nil)))
def f104.w:A7 E:=BQ 104 f104.P LS f104.A f104.F f104.ok
def f66.l0 (n:Nat):Nat→Nat→List T→Nat→List T→Nat→List T→Nat→List T→Int→Option (Cf)
 | 0,_,_,_,_,_,_,_,_,_=>none
 | m+1,n1,l2,n3,l4,n5,l6,n7,l8,i9 =>
   br (decide (i9<(n1:Int))) (
    gd ((decide ((0≤i9)∧(i9<(n1:Int))))&&(AI [(.int .i64),(.int .i64),.lst] l2 (((Int.toNat i9) * 3)+0))) (
    gd ((decide ((0≤i9)∧(i9<(n3:Int))))&&(AI [.lst] l4 (Int.toNat i9))) (
    bd (f104 n (Ed l2 (((Int.toNat i9) * 3)+0)) (Ed l2 ((((Int.toNat i9) * 3)+0)+1)) (GZ l2 (((((Int.toNat i9) * 3)+0)+1)+1)) (HD l2 (((((Int.toNat i9) * 3)+0)+1)+1)) (GZ l4 (Int.toNat i9)) (HD l4 (Int.toNat i9)) n5 l6) fun r10 =>
    let n11:=r10.1
    let l12:=r10.2.1
    let n13:=r10.2.2.1
    let l14:=r10.2.2.2
    gd (Nat.ble (n7+1) 2147483648) (
    let n15:=(n7+1)
    let l16:=(l8++(AF (reps 1 [(T.lst 0 [])]) 0 [(T.lst n13 l14)]))
    f66.l0 n m n1 l2 n3 l4 n11 l12 n15 l16 (IntKind.i64.wrap (i9+(1:Int))))))) (
    some (n5,l6,n7,l8))
def f66:Nat→Nat→List T→Nat→List T→Nat→List T→Option (Cf)
 | 0,_,_,_,_,_,_=>none
 | n+1,n1,l2,n3,l4,n5,l6 =>
   gd (Nat.ble (0+n5) 2147483648) (
   let n7:=(0+n5)
   let l8:=((reps 0 [(T.flt .f32 0)])++l6)
   bd (f66.l0 n n n1 l2 n3 l4 n7 l8 0 (reps 0 [(T.lst 0 [])]) (0:Int)) fun r9 =>
   let n10:=r9.1
   let l11:=r9.2.1
   let n12:=r9.2.2.1
   let l13:=r9.2.2.2
   some (n10,l11,n12,l13))
def f66.l0.P:AS:=⟨[(0,Hu),(1,.val false [.sl .shr [.sl .shr [.leaf]]] [.lst 0 []] [] 0),(8,A3),(9,VN),(10,AU)],0⟩
def f66.l0.A:D7 (Cf):=.one (.exit 0) ⟨[(8,A3),(9,VN)],0⟩ Bl
def f66.l0.F (n m:Nat) (v:gC):=let (a,b,c,d,e,f,g,h,i):=v;f66.l0 n m a b c d e f g h i
def f66.l0.W (n:Nat):ER:=.of 64 f66.l0.P MK f66.l0.A (f66.l0.F n n)
def f66.P:List Ae:=[Uh,⟨.val,⟨false,[.sl .shr [.sl .shr [.leaf]]],[.lst 0 []]⟩⟩,DT]
def f66.A:Aa (Cf):=.one ⟨[DZ,bX],[none,none,none]⟩ Bl
def f66.F (n:Nat) (v:fR):=let (a,b,c,d,e,f):=v;f66 n a b c d e f
def f66.O (n:Nat):BJ:=AK (E:=E) [f104.w] [f66.l0.W n] n
theorem f66.l0.ok:∀ n,E0 66 jj 0 n (f66.O n):=FC f66.l0.P MK f66.l0.A f66.l0.F
theorem f66.ok:Bh 66 f66.P SB f66.A f66.F:=Bi jj f66.O [Ac jj 0] (fun n=>(.cons (f66.l0.ok n) .nil))
def f66.w:A7 E:=BQ 66 f66.P SB f66.A f66.F f66.ok
def f30:Nat→Nat→List T→Nat→List T→Int→Int→Option (Nat × List T)
 | 0,_,_,_,_,_,_=>none
 | n+1,n1,l2,n3,l4,i5,i6 =>
   gd ((decide ((0≤i5)∧(i5<(n3:Int))))&&(AI [.lst,(.int .i64),(.flt .f32),.bool,.bool] l4 (((Int.toNat i5) * 5)+0))) (
   let n7:=(GZ l4 (((Int.toNat i5) * 5)+0))
   let l8:=(HD l4 (((Int.toNat i5) * 5)+0))
   bd (f67 n n7 l8) fun r9 =>
   let n10:=r9.1
   let l11:=r9.2
   bd (f68 n n1 l2 n3 l4 i5 i6) fun r12 =>
   let n13:=r12.1
   let l14:=r12.2
   bd (f66 n n7 l8 n10 l11 n13 l14) fun r15 =>
   let n16:=r15.1
   let l17:=r15.2.1
   some (n16,l17))
def f30.P:List Ae:=[bx,CV,CV]
def f30.A:Aa (Nat × List T):=.one ⟨[DZ],[none,none,none]⟩ Bg
def f30.F (n:Nat) (v:NC):=let (a,b,c,d,e,f):=v;f30 n a b c d e f
def f30.O (n:Nat):BJ:=AK (E:=E) [f67.w,f68.w,f66.w] [] n
theorem f30.ok:Bh 30 f30.P Cc f30.A f30.F:=Bi mZ f30.O
def f30.w:A7 E:=BQ 30 f30.P Cc f30.A f30.F f30.ok
def f15:Nat→Nat→List T→Nat→List T→Int→Int→Option (SU)
 | 0,_,_,_,_,_,_=>none
 | n+1,n1,l2,n3,l4,i5,i6 =>
   bd (f27 n n1 l2 n3 l4) fun r7 =>
   let b8:=r7
   br (!b8) (
    some (0,[],0,[],false)) (
    bd (f28 n i5 (0:Int) (IntKind.i64.wrap ((n3:Int) - (1:Int)))) fun r9 =>
    let b10:=r9
    br (!b10) (
     some (0,[],0,[],false)) (
     bd (f29 n i6) fun r11 =>
     let b12:=r11
     br (!b12) (
      some (0,[],0,[],false)) (
      bd (f40 n n1 l2 n3 l4) fun r13 =>
      let n16:=r13.2.2.1
      let l17:=r13.2.2.2
      bd (f15.l0 n n i5 i6 n1 l2 n3 l4 0 [] 0 [] 0 (reps 0 [(T.int .i64 (0:Int)),(T.int .i64 (0:Int)),(T.lst 0 [])]) n16 l17 (n1:Int) (0:Int)) fun r18 =>
      let i19:=r18.1
      let i20:=r18.2.1
      let n21:=r18.2.2.1
      let l22:=r18.2.2.2.1
      let n23:=r18.2.2.2.2.1
      let l24:=r18.2.2.2.2.2.1
      let n29:=r18.2.2.2.2.2.2.2.2.2.2.1
      let l30:=r18.2.2.2.2.2.2.2.2.2.2.2.1
      let n31:=r18.2.2.2.2.2.2.2.2.2.2.2.2.1
      let l32:=r18.2.2.2.2.2.2.2.2.2.2.2.2.2
      bd (f30 n n21 l22 n23 l24 i19 i20) fun r33 =>
      let n34:=r33.1
      let l35:=r33.2
      gd (Nat.ble (n29+1) 2147483648) (
      let n36:=(n29+1)
      let l37:=(l30++(AF (reps 1 [(T.int .i64 (0:Int)),(T.int .i64 (0:Int)),(T.lst 0 [])]) 0 (AF (AF [(T.int .i64 (0:Int)),(T.int .i64 (0:Int)),(T.lst 0 [])] 0 [(T.int .i64 i19)]) 2 [(T.lst n34 l35)])))
      gd (decide ((0≤i19)∧(i19<(n31:Int)))) (
      gd (Nat.ble ((((Int.toNat i19) * 5)+0)+1) (List.length l32)) (
      let l38:=(AF l32 (((Int.toNat i19) * 5)+0) [(T.lst 0 (reps 0 [(T.int .i64 (0:Int)),(T.int .i64 (0:Int)),(T.lst 0 [])]))])
      bd (f27 n n36 l37 n31 l38) fun r39 =>
      let b40:=r39
      br (!b40) (
       some (0,[],0,[],false)) (
       some (n36,l37,n31,l38,true))))))))
def KU:By (kQ) where
 pk:=fun (a0,a1,a2,a3,a4,a5,a6,a7,a8,a9,a10,a11,a12,a13,a14,a15)=>[.int a0,.int a1,.lst a2 a3,.lst a4 a5,.lst a6 a7,.lst a8 a9,.lst a10 a11,.lst a12 a13,.int a14,.int a15]
 up:=fun ls=>match ls with
  | [.int a0,.int a1,.lst a2 a3,.lst a4 a5,.lst a6 a7,.lst a8 a9,.lst a10 a11,.lst a12 a13,.int a14,.int a15]=>some (a0,a1,a2,a3,a4,a5,a6,a7,a8,a9,a10,a11,a12,a13,a14,a15)
  | _=>none
def TT:By (fW) where
 pk:=fun (a0,a1,a2,a3,a4,a5,a6,a7,a8,a9,a10,a11,a12,a13)=>[.int a0,.int a1,.lst a2 a3,.lst a4 a5,.lst a6 a7,.lst a8 a9,.lst a10 a11,.lst a12 a13]
 up:=fun ls=>match ls with
  | [.int a0,.int a1,.lst a2 a3,.lst a4 a5,.lst a6 a7,.lst a8 a9,.lst a10 a11,.lst a12 a13]=>some (a0,a1,a2,a3,a4,a5,a6,a7,a8,a9,a10,a11,a12,a13)
  | _=>none
def f15.l0.P:AS:=⟨[(1,AU),(2,AU),(3,Ig),(6,DR),(8,DR),(32,AU),(33,AU)],0⟩
def f15.l0.A:D7 (fW):=.one (.exit 0) ⟨[(1,AU),(2,AU),(3,Ig),(6,DR),(8,DR)],0⟩ TT
def f15.l0.F (n m:Nat) (v:kQ):=let (a,b,c,d,e,f,g,h,i,j,k,l,o,p,q,r):=v;f15.l0 n m a b c d e f g h i j k l o p q r
def f15.l0.W (n:Nat):ER:=.of 96 f15.l0.P KU f15.l0.A (f15.l0.F n n)
def f15.P:List Ae:=[P8,CV,CV]
def f15.A:Aa (SU):=.one ⟨[Y2,CN],[none,none,none]⟩ SK
def f15.F (n:Nat) (v:NC):=let (a,b,c,d,e,f):=v;f15 n a b c d e f
def f15.O (n:Nat):BJ:=AK (E:=E) [f28.w,f27.w,f29.w,f41.w,f40.w,f30.w] [f15.l0.W n] n
theorem f15.l0.ok:∀ n,E0 15 iK 0 n (f15.O n):=FC f15.l0.P KU f15.l0.A f15.l0.F
theorem f15.ok:Bh 15 f15.P Cc f15.A f15.F:=Bi iK f15.O [Ac iK 0] (fun n=>(.cons (f15.l0.ok n) .nil))
def f15.w:A7 E:=BQ 15 f15.P Cc f15.A f15.F f15.ok
def f53.l0 (n:Nat):Nat→Nat→List T→Nat→List T→Nat→List T→Nat→List T→Nat→List T→Int→Int→Option (Cf)
 | 0,_,_,_,_,_,_,_,_,_,_,_,_=>none
 | m+1,n1,l2,n3,l4,n5,l6,n7,l8,n9,l10,i11,i12 =>
   br (decide (i12<i11)) (
    gd ((decide ((0≤i12)∧(i12<(n9:Int))))&&(AI [.lst,(.int .i64),(.flt .f32),.bool,.bool] l10 (((Int.toNat i12) * 5)+0))) (
    let n13:=(GZ l10 (((Int.toNat i12) * 5)+0))
    let l14:=(HD l10 (((Int.toNat i12) * 5)+0))
    let i15:=(Ed l10 ((((Int.toNat i12) * 5)+0)+1))
    let x16:=(BR l10 (((((Int.toNat i12) * 5)+0)+1)+1))
    let b17:=(KA l10 ((((((Int.toNat i12) * 5)+0)+1)+1)+1))
    let b18:=(KA l10 (((((((Int.toNat i12) * 5)+0)+1)+1)+1)+1))
    gd (Nat.ble (n5+1) 2147483648) (
    gd (Nat.ble (n7+1) 2147483648) (
    let n19:=(n5+1)
    let l20:=(l6++(AF (reps 1 [(T.bool false)]) 0 [(T.bool b17)]))
    let n21:=(n7+1)
    let l22:=(l8++(AF (reps 1 [(T.bool false)]) 0 [(T.bool b18)]))
    f53.l0 n m n1 l2 n3 l4 n19 l20 n21 l22 n9 l10 i11 (IntKind.i64.wrap (i12+(1:Int))))))) (
    some (n5,l6,n7,l8))
termination_by structural x=>x
def f53:Nat→Nat→List T→Nat→List T→Option (Nat × List T)
 | 0,_,_,_,_=>none
 | n+1,n1,l2,n3,l4 =>
   bd (f53.l0 n n n1 l2 n3 l4 0 [] 0 [] n3 l4 (n3:Int) (0:Int)) fun r5 =>
   let n6:=r5.1
   let l7:=r5.2.1
   let n8:=r5.2.2.1
   let l9:=r5.2.2.2
   bd (f97 n n6 l7 n8 l9) fun r10 =>
   let n11:=r10.1
   let l12:=r10.2
   some (n11,l12)
def f53.l0.P:AS:=⟨[(1,Ig),(3,A3),(4,A3),(8,cu),(9,AU),(10,AU)],0⟩
def f53.l0.A:D7 (Cf):=.one (.exit 0) ⟨[(3,A3),(4,A3)],0⟩ Bl
def f53.l0.F (n m:Nat) (v:cK):=let (a,b,c,d,e,f,g,h,i,j,k,l):=v;f53.l0 n m a b c d e f g h i j k l
def f53.l0.W (n:Nat):ER:=.of 48 f53.l0.P FP f53.l0.A (f53.l0.F n n)
def f53.P:List Ae:=[P8]
def f53.A:Aa (Nat × List T):=.one ⟨[DZ],[none]⟩ Bg
def f53.F (n:Nat) (v:Cf):=let (a,b,c,d):=v;f53 n a b c d
def f53.O (n:Nat):BJ:=AK (E:=E) [f97.w] [f53.l0.W n] n
theorem f53.l0.ok:∀ n,E0 53 kX 0 n (f53.O n):=FC f53.l0.P FP f53.l0.A f53.l0.F
theorem f53.ok:Bh 53 f53.P Bl f53.A f53.F:=Bi kX f53.O [Ac kX 0] (fun n=>(.cons (f53.l0.ok n) .nil))
def f53.w:A7 E:=BQ 53 f53.P Bl f53.A f53.F f53.ok
def f56:Nat→Int→Int→Nat→List T→Option (Int)
 | 0,_,_,_,_=>none
 | n+1,i1,i2,n3,l4 =>
   bd (f58 n (n3:Int)) fun r5 =>
   let i6:=r5
   some (IntKind.i64.wrap (i2+i6))
def f56.P:List Ae:=[Zv]
def f56.A:Aa (Int):=.one ⟨[Ns],[none]⟩ F9
def f56.F (n:Nat) (v:Uv):=let (a,b,c,d):=v;f56 n a b c d
def f56.O (n:Nat):BJ:=AK (E:=E) [f58.w] [] n
theorem f56.ok:Bh 56 f56.P Gr f56.A f56.F:=Bi mj f56.O
def f56.w:A7 E:=BQ 56 f56.P Gr f56.A f56.F f56.ok
def f22.l1 (n:Nat):Nat→Nat→List T→Nat→List T→Nat→List T→Nat→List T→Nat→List T→Nat→List T→Int→Int→Int→Nat→List T→Int→Int→Nat→List T→Int→Int→Option (kt)
 | 0,_,_,_,_,_,_,_,_,_,_,_,_,_,_,_,_,_,_,_,_,_,_,_=>none
 | m+1,n1,l2,n3,l4,n5,l6,n7,l8,n9,l10,n11,l12,i13,i14,i15,n16,l17,i18,i19,n20,l21,i22,i23 =>
   br (decide (i23<i22)) (
    gd ((decide ((0≤i23)∧(i23<(n20:Int))))&&(AI [(.int .i64),(.int .i64),.lst] l21 (((Int.toNat i23) * 3)+0))) (
    let i24:=(Ed l21 (((Int.toNat i23) * 3)+0))
    let i25:=(Ed l21 ((((Int.toNat i23) * 3)+0)+1))
    let n26:=(GZ l21 (((((Int.toNat i23) * 3)+0)+1)+1))
    let l27:=(HD l21 (((((Int.toNat i23) * 3)+0)+1)+1))
    br (i24 != i13) (
     f22.l1 n m n1 l2 n3 l4 n5 l6 n7 l8 n9 l10 n11 l12 i13 i14 i15 n16 l17 i18 i19 n20 l21 i22 (IntKind.i64.wrap (i23+(1:Int)))) (
     br (decide (i14<(0:Int))) (
      bd (f56 n i24 i25 n26 l27) fun r28 =>
      let i29:=r28
      let i30:=(if (i29>i15) then i29 else i15)
      f22.l1 n m n1 l2 n3 l4 n5 l6 n7 l8 n9 l10 n11 l12 i13 i25 i30 n16 l17 i18 i19 n20 l21 i22 (IntKind.i64.wrap (i23+(1:Int)))) (
      br (decide (i25<i14)) (
       bd (f56 n i24 i25 n26 l27) fun r31 =>
       let i32:=r31
       let i33:=(if (i32>i15) then i32 else i15)
       f22.l1 n m n1 l2 n3 l4 n5 l6 n7 l8 n9 l10 n11 l12 i13 i25 i33 n16 l17 i18 i19 n20 l21 i22 (IntKind.i64.wrap (i23+(1:Int)))) (
       bd (f56 n i24 i25 n26 l27) fun r34 =>
       let i35:=r34
       let i36:=(if (i35>i15) then i35 else i15)
       f22.l1 n m n1 l2 n3 l4 n5 l6 n7 l8 n9 l10 n11 l12 i13 i14 i36 n16 l17 i18 i19 n20 l21 i22 (IntKind.i64.wrap (i23+(1:Int)))))))) (
    some (n1,l2,n3,l4,n5,l6,n7,l8,n9,l10,n11,l12,i13,i14,i15,n16,l17,i18,i19))
termination_by structural x=>x
def f22.l0 (n:Nat):Nat→Nat→List T→Nat→List T→Nat→List T→Nat→List T→Nat→List T→Nat→List T→Nat→List T→Int→Int→Option (Vd)
 | 0,_,_,_,_,_,_,_,_,_,_,_,_,_,_,_,_=>none
 | m+1,n1,l2,n3,l4,n5,l6,n7,l8,n9,l10,n11,l12,n13,l14,i15,i16 =>
   br (decide (i16<i15)) (
    gd (decide ((0≤i16)∧(i16<(n13:Int)))) (
    gd (AI [.bool] l14 (Int.toNat i16)) (
    let b17:=(KA l14 (Int.toNat i16))
    br (!b17) (
     gd (decide ((0≤i16)∧(i16<(n11:Int)))) (
     gd (Nat.ble ((((Int.toNat i16) * 5)+0)+1) (List.length l12)) (
     let l18:=(AF l12 (((Int.toNat i16) * 5)+0) [(T.lst 0 [])])
     f22.l0 n m n1 l2 n3 l4 n5 l6 n7 l8 n9 l10 n11 l18 n13 l14 i15 (IntKind.i64.wrap (i16+(1:Int)))))) (
     gd (decide ((0≤i16)∧(i16<(n11:Int)))) (
     gd (AI [.lst] l12 (((Int.toNat i16) * 5)+0)) (
     gd ((AI [.lst] l12 (((Int.toNat i16) * 5)+0))&&true) (
     gd ((AI [.lst] l12 (((Int.toNat i16) * 5)+0))&&true) (
     bd (Gq 3 n (GZ l12 (((Int.toNat i16) * 5)+0)) (HD l12 (((Int.toNat i16) * 5)+0))) fun r19 =>
     let n20:=r19.1
     let l21:=r19.2.1
     gd (decide ((0≤i16)∧(i16<(n11:Int)))) (
     gd (Nat.ble ((((Int.toNat i16) * 5)+0)+1) (List.length (AF l12 (((Int.toNat i16) * 5)+0) [T.nil]))) (
     let l24:=(AF (AF l12 (((Int.toNat i16) * 5)+0) [T.nil]) (((Int.toNat i16) * 5)+0) [(T.lst n20 l21)])
     bd (f22.l1 n n n1 l2 n3 l4 n5 l6 n7 l8 n9 l10 n11 l24 i16 (-1:Int) (0:Int) n13 l14 i15 i16 n1 l2 (n1:Int) (0:Int)) fun r25 =>
     let n26:=r25.1
     let l27:=r25.2.1
     let n28:=r25.2.2.1
     let l29:=r25.2.2.2.1
     let n30:=r25.2.2.2.2.1
     let l31:=r25.2.2.2.2.2.1
     let n32:=r25.2.2.2.2.2.2.1
     let l33:=r25.2.2.2.2.2.2.2.1
     let n34:=r25.2.2.2.2.2.2.2.2.1
     let l35:=r25.2.2.2.2.2.2.2.2.2.1
     let n36:=r25.2.2.2.2.2.2.2.2.2.2.1
     let l37:=r25.2.2.2.2.2.2.2.2.2.2.2.1
     let i38:=r25.2.2.2.2.2.2.2.2.2.2.2.2.1
     let i39:=r25.2.2.2.2.2.2.2.2.2.2.2.2.2.1
     let i40:=r25.2.2.2.2.2.2.2.2.2.2.2.2.2.2.1
     let n41:=r25.2.2.2.2.2.2.2.2.2.2.2.2.2.2.2.1
     let l42:=r25.2.2.2.2.2.2.2.2.2.2.2.2.2.2.2.2.1
     let i43:=r25.2.2.2.2.2.2.2.2.2.2.2.2.2.2.2.2.2.1
     let i44:=r25.2.2.2.2.2.2.2.2.2.2.2.2.2.2.2.2.2.2
     br (decide (i39≥(0:Int))) (
      bd (f57 n n26 l27 n28 l29 i38 i39 (if ((IntKind.i64.wrap (i40 - i39))<(256:Int)) then (IntKind.i64.wrap (i40 - i39)) else (256:Int))) fun r45 =>
      let n46:=r45.1
      let l47:=r45.2
      gd (Nat.ble (n34+1) 2147483648) (
      let n48:=(n34+1)
      let l49:=(l35++(AF (reps 1 [(T.int .i64 (0:Int)),(T.int .i64 (0:Int)),(T.lst 0 [])]) 0 (AF (AF (AF [(T.int .i64 (0:Int)),(T.int .i64 (0:Int)),(T.lst 0 [])] 0 [(T.int .i64 i38)]) 1 [(T.int .i64 i39)]) 2 [(T.lst n46 l47)])))
      f22.l0 n m n26 l27 n28 l29 n30 l31 n32 l33 n48 l49 n36 l37 n41 l42 i43 (IntKind.i64.wrap (i44+(1:Int))))) (
      f22.l0 n m n26 l27 n28 l29 n30 l31 n32 l33 n34 l35 n36 l37 n41 l42 i43 (IntKind.i64.wrap (i44+(1:Int)))))))))))))) (
    some (n5,l6,n7,l8,n9,l10,n11,l12))
termination_by structural x=>x
def f22:Nat→Nat→List T→Nat→List T→Option (SU)
 | 0,_,_,_,_=>none
 | n+1,n1,l2,n3,l4 =>
   bd (f50 n n1 l2 n3 l4) fun r5 =>
   let b6:=r5
   br (!b6) (
    some (0,[],0,[],false)) (
    bd (f42 n n1 l2 n3 l4) fun r7 =>
    let n10:=r7.2.2.1
    let l11:=r7.2.2.2
    bd (f53 n n1 l2 n3 l4) fun r12 =>
    let n13:=r12.1
    let l14:=r12.2
    bd (f22.l0 n n n1 l2 n3 l4 0 [] 0 [] 0 [] n10 l11 n13 l14 (n13:Int) (0:Int)) fun r15 =>
    let n20:=r15.2.2.2.2.1
    let l21:=r15.2.2.2.2.2.1
    let n22:=r15.2.2.2.2.2.2.1
    let l23:=r15.2.2.2.2.2.2.2
    bd (f45 n n20 l21 n22 l23) fun r24 =>
    sm r24 (fun u25 =>
     let n26:=u25.1
     let l27:=u25.2.1
     let n28:=u25.2.2.1
     let l29:=u25.2.2.2.1
     let b30:=u25.2.2.2.2.1
     let n31:=u25.2.2.2.2.2.1
     let l32:=u25.2.2.2.2.2.2.1
     let n33:=u25.2.2.2.2.2.2.2.1
     let l34:=u25.2.2.2.2.2.2.2.2
     some (n26,l27,n28,l29,b30)) (fun u35 =>
     let n36:=u35.1
     let l37:=u35.2.1
     let n38:=u35.2.2.1
     let l39:=u35.2.2.2.1
     let b40:=u35.2.2.2.2.1
     let n41:=u35.2.2.2.2.2.1
     let l42:=u35.2.2.2.2.2.2.1
     let n43:=u35.2.2.2.2.2.2.2.1
     let l44:=u35.2.2.2.2.2.2.2.2
     some (n36,l37,n38,l39,b40)))
def Gi:By (nS) where
 pk:=fun (a0,a1,a2,a3,a4,a5,a6,a7,a8,a9,a10,a11,a12,a13,a14,a15,a16,a17,a18,a19,a20,a21,a22)=>[.lst a0 a1,.lst a2 a3,.lst a4 a5,.lst a6 a7,.lst a8 a9,.lst a10 a11,.int a12,.int a13,.int a14,.lst a15 a16,.int a17,.int a18,.lst a19 a20,.int a21,.int a22]
 up:=fun ls=>match ls with
  | [.lst a0 a1,.lst a2 a3,.lst a4 a5,.lst a6 a7,.lst a8 a9,.lst a10 a11,.int a12,.int a13,.int a14,.lst a15 a16,.int a17,.int a18,.lst a19 a20,.int a21,.int a22]=>some (a0,a1,a2,a3,a4,a5,a6,a7,a8,a9,a10,a11,a12,a13,a14,a15,a16,a17,a18,a19,a20,a21,a22)
  | _=>none
def Nl:By (kt) where
 pk:=fun (a0,a1,a2,a3,a4,a5,a6,a7,a8,a9,a10,a11,a12,a13,a14,a15,a16,a17,a18)=>[.lst a0 a1,.lst a2 a3,.lst a4 a5,.lst a6 a7,.lst a8 a9,.lst a10 a11,.int a12,.int a13,.int a14,.lst a15 a16,.int a17,.int a18]
 up:=fun ls=>match ls with
  | [.lst a0 a1,.lst a2 a3,.lst a4 a5,.lst a6 a7,.lst a8 a9,.lst a10 a11,.int a12,.int a13,.int a14,.lst a15 a16,.int a17,.int a18]=>some (a0,a1,a2,a3,a4,a5,a6,a7,a8,a9,a10,a11,a12,a13,a14,a15,a16,a17,a18)
  | _=>none
def f22.l1.P:AS:=⟨[(1,Ig),(2,DR),(4,DR),(7,AU),(8,AU),(9,AU),(20,A3),(21,AU),(22,AU),(48,Hu),(49,AU),(50,AU)],0⟩
def f22.l1.A:D7 (kt):=.one (.exit 2) ⟨[(1,Ig),(2,DR),(4,DR),(7,AU),(8,AU),(9,AU),(20,A3),(21,AU),(22,AU),(72,.dead),(91,.dead)],0⟩ Nl
def f22.l1.F (n m:Nat) (v:nS):=let (a,b,c,d,e,f,g,h,i,j,k,l,o,p,q,r,s,t,u,v,w,x,y):=v;f22.l1 n m a b c d e f g h i j k l o p q r s t u v w x y
def f22.l1.W (n:Nat):ER:=.of 224 f22.l1.P Gi f22.l1.A (f22.l1.F n n)
def f22.l0.P:AS:=⟨[(1,Ig),(2,DR),(4,DR),(20,A3),(21,AU),(22,AU)],0⟩
def f22.l0.A:D7 (Vd):=.one (.exit 0) ⟨[(2,DR),(4,DR)],0⟩ Rp
def f22.l0.F (n m:Nat) (v:bt):=let (a,b,c,d,e,f,g,h,i,j,k,l,o,p,q,r):=v;f22.l0 n m a b c d e f g h i j k l o p q r
def f22.l0.W (n:Nat):ER:=.of 96 f22.l0.P Du f22.l0.A (f22.l0.F n n)
def f22.P:List Ae:=[P8]
def f22.A:Aa (SU):=.one ⟨[Y2,CN],[none]⟩ SK
def f22.F (n:Nat) (v:Cf):=let (a,b,c,d):=v;f22 n a b c d
def f22.O (n:Nat):BJ:=AK (E:=E) [x54.w,f50.w,f57.w,f42.w,f45.w,f53.w,f56.w] [f22.l1.W n,f22.l0.W n] n
theorem f22.l1.ok:∀ n,E0 22 gH 1 n (f22.O n):=FC f22.l1.P Gi f22.l1.A f22.l1.F
theorem f22.l0.ok:∀ n,E0 22 gH 0 n (f22.O n):=FC f22.l0.P Du f22.l0.A f22.l0.F [Ac gH 1] (fun n=>(.cons (f22.l1.ok n) .nil))
theorem f22.ok:Bh 22 f22.P Bl f22.A f22.F:=Bi gH f22.O [Ac gH 0] (fun n=>(.cons (f22.l0.ok n) .nil))
def f22.w:A7 E:=BQ 22 f22.P Bl f22.A f22.F f22.ok
def f23.l0 (n:Nat):Nat→Nat→List T→Nat→List T→Int→Nat→List T→Int→Int→Option (TC)
 | 0,_,_,_,_,_,_,_,_,_=>none
 | m+1,n1,l2,n3,l4,i5,n6,l7,i8,i9 =>
   br (decide (i9<i8)) (
    gd ((decide ((0≤i9)∧(i9<(n6:Int))))&&(AI [(.int .i64),(.int .i64),.lst] l7 (((Int.toNat i9) * 3)+0))) (
    let i10:=(Ed l7 (((Int.toNat i9) * 3)+0))
    let i11:=(Ed l7 ((((Int.toNat i9) * 3)+0)+1))
    let n12:=(GZ l7 (((((Int.toNat i9) * 3)+0)+1)+1))
    let l13:=(HD l7 (((((Int.toNat i9) * 3)+0)+1)+1))
    bd (f58 n (n12:Int)) fun r14 =>
    let i15:=r14
    let i16:=(IntKind.i64.wrap (i5+i15))
    f23.l0 n m n1 l2 n3 l4 i16 n6 l7 i8 (IntKind.i64.wrap (i9+(1:Int))))) (
    some (n1,l2,n3,l4,i5))
def f23.l1 (n:Nat):Nat→Nat→List T→Nat→List T→Int→Nat→List T→Int→Int→Option (Int)
 | 0,_,_,_,_,_,_,_,_,_=>none
 | m+1,n1,l2,n3,l4,i5,n6,l7,i8,i9 =>
   br (decide (i9<i8)) (
    gd (decide ((0≤i9)∧(i9<(n6:Int)))) (
    gd (AI [.bool] l7 (Int.toNat i9)) (
    let b10:=(KA l7 (Int.toNat i9))
    br b10 (
     gd ((decide ((0≤i9)∧(i9<(n3:Int))))&&(AI [.lst,(.int .i64),(.flt .f32),.bool,.bool] l4 (((Int.toNat i9) * 5)+0))) (
     bd (f58 n (((GZ l4 (((Int.toNat i9) * 5)+0)):Nat):Int)) fun r11 =>
     let i12:=r11
     let i13:=(IntKind.i64.wrap (i5+(IntKind.i64.wrap ((256:Int) * i12))))
     f23.l1 n m n1 l2 n3 l4 i13 n6 l7 i8 (IntKind.i64.wrap (i9+(1:Int))))) (
     f23.l1 n m n1 l2 n3 l4 i5 n6 l7 i8 (IntKind.i64.wrap (i9+(1:Int))))))) (
    some i5)
def f23:Nat→Nat→List T→Nat→List T→Option (Int × Bool)
 | 0,_,_,_,_=>none
 | n+1,n1,l2,n3,l4 =>
   bd (f50 n n1 l2 n3 l4) fun r5 =>
   let b6:=r5
   br (!b6) (
    some ((0:Int),false)) (
    bd (f23.l0 n n n1 l2 n3 l4 (0:Int) n1 l2 (n1:Int) (0:Int)) fun r7 =>
    let n8:=r7.1
    let l9:=r7.2.1
    let n10:=r7.2.2.1
    let l11:=r7.2.2.2.1
    let i12:=r7.2.2.2.2
    bd (f53 n n8 l9 n10 l11) fun r13 =>
    let n14:=r13.1
    let l15:=r13.2
    bd (f23.l1 n n n8 l9 n10 l11 i12 n14 l15 (n14:Int) (0:Int)) fun r16 =>
    let i17:=r16
    some (i17,true))
def kB:By (Int × Bool) where
 pk:=fun (a0,a1)=>[.int a0,.bool a1]
 up:=fun ls=>match ls with
  | [.int a0,.bool a1]=>some (a0,a1)
  | _=>none
def J5:By (gZ) where
 pk:=fun (a0,a1,a2,a3,a4,a5,a6,a7,a8)=>[.lst a0 a1,.lst a2 a3,.int a4,.lst a5 a6,.int a7,.int a8]
 up:=fun ls=>match ls with
  | [.lst a0 a1,.lst a2 a3,.int a4,.lst a5 a6,.int a7,.int a8]=>some (a0,a1,a2,a3,a4,a5,a6,a7,a8)
  | _=>none
def f23.l0.P:AS:=⟨[(1,Ig),(4,AU),(13,Hu),(14,AU),(15,AU)],0⟩
def f23.l0.A:D7 (TC):=.one (.exit 0) ⟨[(1,Ig),(4,AU),(46,.dead)],0⟩ HU
def f23.l0.F (n m:Nat) (v:gZ):=let (a,b,c,d,e,f,g,h,i):=v;f23.l0 n m a b c d e f g h i
def f23.l0.W (n:Nat):ER:=.of 80 f23.l0.P J5 f23.l0.A (f23.l0.F n n)
def f23.l1.P:AS:=⟨[(1,Ig),(4,AU),(27,A3),(28,AU),(29,AU)],0⟩
def f23.l1.A:D7 (Int):=.one (.exit 2) ⟨[(4,AU)],0⟩ F9
def f23.l1.F (n m:Nat) (v:gZ):=let (a,b,c,d,e,f,g,h,i):=v;f23.l1 n m a b c d e f g h i
def f23.l1.W (n:Nat):ER:=.of 160 f23.l1.P J5 f23.l1.A (f23.l1.F n n)
def f23.P:List Ae:=[P8]
def f23.A:Aa (Int × Bool):=.one ⟨[Ns,CN],[none]⟩ kB
def f23.F (n:Nat) (v:Cf):=let (a,b,c,d):=v;f23 n a b c d
def f23.O (n:Nat):BJ:=AK (E:=E) [f58.w,f50.w,f53.w] [f23.l0.W n,f23.l1.W n] n
theorem f23.l0.ok:∀ n,E0 23 c23 0 n (f23.O n):=FC f23.l0.P J5 f23.l0.A f23.l0.F
theorem f23.l1.ok:∀ n,E0 23 c23 1 n (f23.O n):=FC f23.l1.P J5 f23.l1.A f23.l1.F
theorem f23.ok:Bh 23 f23.P Bl f23.A f23.F:=Bi c23 f23.O [Ac c23 0,Ac c23 1] (fun n=>(.cons (f23.l0.ok n) (.cons (f23.l1.ok n) .nil)))
def f23.w:A7 E:=BQ 23 f23.P Bl f23.A f23.F f23.ok
def f99:Nat→Nat→Nat→Option (Bool)
 | 0,_,_=>none
 | n+1,x1,x2 =>
   bd (f119 n x1) fun r3 =>
   let i4:=r3
   bd (f119 n x2) fun r5 =>
   let i6:=r5
   some (i4==i6)
def f99.P:List Ae:=[Cx,Cx]
def f99.A:Aa (Bool):=.one ⟨[CN],[none,none]⟩ C3
def f99.F (n:Nat) (v:Nat × Nat):=f99 n v.1 v.2
def f99.O (n:Nat):BJ:=AK (E:=E) [f119.w] [] n
theorem f99.ok:Bh 99 f99.P I8 f99.A f99.F:=Bi k6 f99.O
def f99.w:A7 E:=BQ 99 f99.P I8 f99.A f99.F f99.ok
def f59:Nat→Nat→Nat→Option (Bool)
 | 0,_,_=>none
 | n+1,x1,x2 =>
   bd (f99 n x1 x2) fun r3 =>
   let b4:=r3
   some b4
def f59.P:List Ae:=[Cx,Cx]
def f59.A:Aa (Bool):=.one ⟨[CN],[none,none]⟩ C3
def f59.F (n:Nat) (v:Nat × Nat):=f59 n v.1 v.2
def f59.O (n:Nat):BJ:=AK (E:=E) [f99.w] [] n
theorem f59.ok:Bh 59 f59.P I8 f59.A f59.F:=Bi k7 f59.O
def f59.w:A7 E:=BQ 59 f59.P I8 f59.A f59.F f59.ok
def f24.l0 (n:Nat):Nat→Nat→List T→Nat→List T→Int→Option ((Bool) ⊕ (Unit))
 | 0,_,_,_,_,_=>none
 | m+1,n1,l2,n3,l4,i5 =>
   br (decide (i5<(n1:Int))) (
    gd ((decide ((0≤i5)∧(i5<(n1:Int))))&&(AI [(.flt .f32)] l2 (Int.toNat i5))) (
    gd ((decide ((0≤i5)∧(i5<(n3:Int))))&&(AI [(.flt .f32)] l4 (Int.toNat i5))) (
    bd (f59 n (BR l2 (Int.toNat i5)) (BR l4 (Int.toNat i5))) fun r6 =>
    let b7:=r6
    br (!b7) (
     some (Sum.inl false)) (
     f24.l0 n m n1 l2 n3 l4 (IntKind.i64.wrap (i5+(1:Int))))))) (
    some (Sum.inr ()))
def f24:Nat→Nat→List T→Nat→List T→Option (Bool)
 | 0,_,_,_,_=>none
 | n+1,n1,l2,n3,l4 =>
   br ((n1:Int) != (n3:Int)) (
    some false) (
    bd (f24.l0 n n n1 l2 n3 l4 (0:Int)) fun r5 =>
    sm r5 (fun u6 =>
     let b7:=u6
     some b7) (fun u8 =>
     some true))
def f24.l0.P:AS:=⟨[(0,DY),(1,DY),(5,AU)],0⟩
def f24.l0.A:D7 ((Bool) ⊕ (Unit)):=.or (.one .ret ⟨[(4,Jm)],0⟩ C3) (.one (.exit 0) ⟨[(4,.dead)],0⟩ sg)
def f24.l0.F (n m:Nat) (v:TC):=let (a,b,c,d,e):=v;f24.l0 n m a b c d e
def f24.l0.W (n:Nat):ER:=.of 64 f24.l0.P HU f24.l0.A (f24.l0.F n n)
def f24.P:List Ae:=[DT,DT]
def f24.A:Aa (Bool):=.one ⟨[CN],[none,none]⟩ C3
def f24.F (n:Nat) (v:Cf):=let (a,b,c,d):=v;f24 n a b c d
def f24.O (n:Nat):BJ:=AK (E:=E) [f59.w] [f24.l0.W n] n
theorem f24.l0.ok:∀ n,E0 24 jY 0 n (f24.O n):=FC f24.l0.P HU f24.l0.A f24.l0.F
theorem f24.ok:Bh 24 f24.P Bl f24.A f24.F:=Bi jY f24.O [Ac jY 0] (fun n=>(.cons (f24.l0.ok n) .nil))
def f24.w:A7 E:=BQ 24 f24.P Bl f24.A f24.F f24.ok
def f5.l0 (n:Nat):Nat→Int→Nat→List T→Nat→List T→Nat→List T→Nat→List T→Nat→List T→Nat→List T→Bool→Int→Int→Int→Option (eI)
 | 0,_,_,_,_,_,_,_,_,_,_,_,_,_,_,_,_,_=>none
 | m+1,i1,n2,l3,n4,l5,n6,l7,n8,l9,n10,l11,n12,l13,b14,i15,i16,i17 =>
   br (decide (i17<i16)) (
    gd (decide ((0≤i17)∧(i17<(n6:Int)))) (
    gd (AI [(.int .i64)] l7 (((Int.toNat i17) * 3)+0)) (
    br ((Ed l7 (((Int.toNat i17) * 3)+0))==i1) (
     let i18:=(IntKind.i64.wrap (i15+(1:Int)))
     f5.l0 n m i1 n2 l3 n4 l5 n6 l7 n8 l9 n10 l11 n12 l13 b14 i18 i16 (IntKind.i64.wrap (i17+(1:Int)))) (
     f5.l0 n m i1 n2 l3 n4 l5 n6 l7 n8 l9 n10 l11 n12 l13 b14 i15 i16 (IntKind.i64.wrap (i17+(1:Int))))))) (
    some (i1,n2,l3,n4,l5,n6,l7,n8,l9,n10,l11,n12,l13,b14,i15))
termination_by structural x=>x
def f5:Nat→Nat→List T→Nat→List T→Option (Bool)
 | 0,_,_,_,_=>none
 | n+1,n1,l2,n3,l4 =>
   bd (f18 n n1 l2 n3 l4) fun r5 =>
   let b6:=r5
   br b6 (
    some true) (
    bd (f19 n n1 l2) fun r7 =>
    let n8:=r7.1
    let l9:=r7.2.1
    let n10:=r7.2.2.1
    let l11:=r7.2.2.2
    bd (f20 n n3 l4 (0:Int) (24:Int)) fun r12 =>
    let i13:=r12
    bd (f20 n n3 l4 (1:Int) (n10:Int)) fun r14 =>
    let i15:=r14
    bd (f21 n n8 l9 n10 l11 i13) fun r16 =>
    let n17:=r16.1
    let l18:=r16.2.1
    let n19:=r16.2.2.1
    let l20:=r16.2.2.2.1
    let b21:=r16.2.2.2.2
    bd (f16 n n8 l9 n10 l11 i15 i13) fun r22 =>
    let n23:=r22.1
    let l24:=r22.2.1
    let n25:=r22.2.2.1
    let l26:=r22.2.2.2.1
    let b27:=r22.2.2.2.2
    bd (f15 n n8 l9 n10 l11 i15 i13) fun r28 =>
    let b33:=r28.2.2.2.2
    bd (f22 n n8 l9 n10 l11) fun r34 =>
    let n35:=r34.1
    let l36:=r34.2.1
    let n37:=r34.2.2.1
    let l38:=r34.2.2.2.1
    let b39:=r34.2.2.2.2
    bd (f21 n n35 l36 n37 l38 i13) fun r40 =>
    let n41:=r40.1
    let l42:=r40.2.1
    let n43:=r40.2.2.1
    let l44:=r40.2.2.2.1
    let b45:=r40.2.2.2.2
    bd (f23 n n8 l9 n10 l11) fun r46 =>
    let i47:=r46.1
    let b48:=r46.2
    bd (f23 n n35 l36 n37 l38) fun r49 =>
    let i50:=r49.1
    let b51:=r49.2
    br (!b21) (
     some false) (
     br (!(b27==b33)) (
      some false) (
      br (!b39) (
       some false) (
       br (!b45) (
        some false) (
        br (!b48) (
         some false) (
         br (!b51) (
          some false) (
          bd (f24 n n41 l42 n17 l18) fun r52 =>
          let b53:=r52
          br (!b53) (
           some false) (
           bd (f24 n n43 l44 n19 l20) fun r54 =>
           let b55:=r54
           br (!b55) (
            some false) (
            br (decide ((n35:Int)>(n10:Int))) (
             some false) (
             br (decide (i50<(0:Int))) (
              some false) (
              br (decide (i47<(0:Int))) (
               some false) (
               br (!b27) (
                some true) (
                bd (f21 n n23 l24 n25 l26 i13) fun r56 =>
                let n57:=r56.1
                let l58:=r56.2.1
                let n59:=r56.2.2.1
                let l60:=r56.2.2.2.1
                let b61:=r56.2.2.2.2
                bd (f5.l0 n n i15 n17 l18 n19 l20 n23 l24 n25 l26 n57 l58 n59 l60 b61 (0:Int) (n23:Int) (0:Int)) fun r62 =>
                let i63:=r62.1
                let n64:=r62.2.1
                let l65:=r62.2.2.1
                let n66:=r62.2.2.2.1
                let l67:=r62.2.2.2.2.1
                let n70:=r62.2.2.2.2.2.2.2.1
                let l71:=r62.2.2.2.2.2.2.2.2.1
                let n72:=r62.2.2.2.2.2.2.2.2.2.1
                let l73:=r62.2.2.2.2.2.2.2.2.2.2.1
                let n74:=r62.2.2.2.2.2.2.2.2.2.2.2.1
                let l75:=r62.2.2.2.2.2.2.2.2.2.2.2.2.1
                let b76:=r62.2.2.2.2.2.2.2.2.2.2.2.2.2.1
                let i77:=r62.2.2.2.2.2.2.2.2.2.2.2.2.2.2
                br b76 (
                 bd (f24 n n72 l73 n64 l65) fun r78 =>
                 let b79:=r78
                 br b79 (
                  bd (f24 n n74 l75 n66 l67) fun r80 =>
                  let b81:=r80
                  br b81 (
                   br (i77==(1:Int)) (
                    gd (decide ((0≤i63)∧(i63<(n70:Int)))) (
                    gd (AI [.lst] l71 (((Int.toNat i63) * 5)+0)) (
                    gd (AI [.lst] l71 (((Int.toNat i63) * 5)+0)) (
                    some ((((GZ l71 (((Int.toNat i63) * 5)+0)):Nat):Int)==(0:Int)))))) (
                    some false)) (
                   some false)) (
                  some false)) (
                 some false))))))))))))))
def Jg:By (jO) where
 pk:=fun (a0,a1,a2,a3,a4,a5,a6,a7,a8,a9,a10,a11,a12,a13,a14,a15,a16)=>[.int a0,.lst a1 a2,.lst a3 a4,.lst a5 a6,.lst a7 a8,.lst a9 a10,.lst a11 a12,.bool a13,.int a14,.int a15,.int a16]
 up:=fun ls=>match ls with
  | [.int a0,.lst a1 a2,.lst a3 a4,.lst a5 a6,.lst a7 a8,.lst a9 a10,.lst a11 a12,.bool a13,.int a14,.int a15,.int a16]=>some (a0,a1,a2,a3,a4,a5,a6,a7,a8,a9,a10,a11,a12,a13,a14,a15,a16)
  | _=>none
def Rk:By (eI) where
 pk:=fun (a0,a1,a2,a3,a4,a5,a6,a7,a8,a9,a10,a11,a12,a13,a14)=>[.int a0,.lst a1 a2,.lst a3 a4,.lst a5 a6,.lst a7 a8,.lst a9 a10,.lst a11 a12,.bool a13,.int a14]
 up:=fun ls=>match ls with
  | [.int a0,.lst a1 a2,.lst a3 a4,.lst a5 a6,.lst a7 a8,.lst a9 a10,.lst a11 a12,.bool a13,.int a14]=>some (a0,a1,a2,a3,a4,a5,a6,a7,a8,a9,a10,a11,a12,a13,a14)
  | _=>none
def f5.l0.P:AS:=⟨[(7,AU),(8,A3),(9,A3),(11,DR),(24,A3),(25,A3),(26,Jm),(27,AU),(147,AU),(148,AU)],0⟩
def f5.l0.A:D7 (eI):=.one (.exit 0) ⟨[(7,AU),(8,A3),(9,A3),(11,DR),(24,A3),(25,A3),(26,Jm),(27,AU)],0⟩ Rk
def f5.l0.F (n m:Nat) (v:jO):=let (a,b,c,d,e,f,g,h,i,j,k,l,o,p,q,r,s):=v;f5.l0 n m a b c d e f g h i j k l o p q r s
def f5.l0.W (n:Nat):ER:=.of 320 f5.l0.P Jg f5.l0.A (f5.l0.F n n)
def f5.P:List Ae:=[DT,DT]
def f5.A:Aa (Bool):=.one ⟨[CN],[none,none]⟩ C3
def f5.F (n:Nat) (v:Cf):=let (a,b,c,d):=v;f5 n a b c d
def f5.O (n:Nat):BJ:=AK (E:=E) [f18.w,f19.w,f20.w,f21.w,f16.w,f15.w,f22.w,f23.w,f24.w] [f5.l0.W n] n
theorem f5.l0.ok:∀ n,E0 5 c5 0 n (f5.O n):=FC f5.l0.P Jg f5.l0.A f5.l0.F
theorem f5.ok:Bh 5 f5.P Bl f5.A f5.F:=Bi c5 f5.O [Ac c5 0] (fun n=>(.cons (f5.l0.ok n) .nil))
def f5.w:A7 E:=BQ 5 f5.P Bl f5.A f5.F f5.ok
end Go.Proofs.YtdobhipbgpiceaaGreat.D
end
section
namespace Go.Proofs.YtdobhipbgpiceaaGreat.D
open Go Go.Desk
set_option linter.unusedVariables false
theorem af (n:Nat) (bs cs:List Int):f18 (n+1) bs.length (its .u8 bs) cs.length (its .u8 cs)=some (decide (1048576<bs.length∨1048576<cs.length)):=by
 rw[f18]
 by_cases h:1048576<bs.length
 ·rw[decide_eq_true (show (bs.length:Int)>1048576 by omega),decide_eq_true (Or.inl h)];rfl
 ·rw[decide_eq_false (show ¬ (bs.length:Int)>1048576 by omega),Af]
  congr 1
  simp[h];omega
theorem ZK (n:Nat) {bs:List Int} (hb:ED bs) {i k:Int} (hi:0≤i) (hi2:i≤1000000) (hk:1≤k):∃ r,(0≤r∧r<k)∧f20 (n+1) bs.length (its .u8 bs) i k=some r:=by
 rw[f20]
 by_cases h:k≤1
 ·rw[decide_eq_true h];exact ⟨0,by omega,rfl⟩
 rw[decide_eq_false h]
 have hk0:(!decide (k=0))=true:=by simp;omega
 by_cases h2:i<(bs.length:Int)
 ·rw[decide_eq_true h2]
  obtain ⟨i,rfl⟩:=Int.eq_ofNat_of_zero_le hi
  have hi:i<bs.length:=by omega
  have hr:=hb (bs[i]) (List.getElem_mem _)
  simp only[Af,AV,A1 hi,zT,Ot hi,zA,Ay,Rq,hk0]
  rw[show bs.getD i 0=bs[i] by simp[List.getD,hi],show IntKind.i64.wrap bs[i]=bs[i] by rw[BD] <;>omega]
  refine ⟨_,?_,rfl⟩
  rw[Int.tmod_eq_emod_of_nonneg (by omega)]
  have:=Int.emod_nonneg bs[i] (show k≠0 by omega)
  have:=Int.emod_lt_of_pos bs[i] (show 0<k by omega)
  omega
 ·rw[decide_eq_false h2]
  simp only[Af,hk0,Ay]
  rw[show IntKind.i64.wrap (i * 37)=i * 37 by rw[BD] <;>omega,show IntKind.i64.wrap (i * 37+11)=i * 37+11 by rw[BD] <;>omega]
  refine ⟨_,?_,rfl⟩
  rw[Int.tmod_eq_emod_of_nonneg (by omega)]
  have:=Int.emod_nonneg (i * 37+11) (show k≠0 by omega)
  have:=Int.emod_lt_of_pos (i * 37+11) (show 0<k by omega)
  omega
theorem WI (n:Nat) {x:Nat} (h:BX x):f119 (n+2) x=some (x:Int):=by
 rw[f119,SX]
 cases hn:isNaN .f32 x
 ·have:Fs (n+1) x=some (x:Int):=by simp[Fs,hn]
  have hx:=h.1
  simp only[Af,this,AJ]
  rw[BD] <;>omega
 ·rw[AV,← h.2,BY hn];rfl
theorem be (n:Nat) {x y:Nat} (hx:BX x) (hy:BX y):f99 (n+3) x y=some (x==y):=by
 rw[f99,WI n hx]
 simp only[AJ,WI n hy]
 congr 1
 rw[Bool.eq_iff_iff];simp;constructor <;>omega
theorem gY (n:Nat) {x y:Nat} (hx:BX x) (hy:BX y):f59 (n+4) x y=some (x==y):=by
 rw[f59,be n hx hy];rfl
theorem QX (n:Nat):∀ (zs ys p q:List Nat) (m:Nat),ys.length=zs.length→p.length=q.length→(∀ x∈zs,BX x)→(∀ x∈ys,BX x)→p.length+zs.length≤1048576→zs.length<m →
  f24.l0 (n+4) m (p++zs).length (AL .f32 (p++zs)) (q++ys).length (AL .f32 (q++ys)) (p.length:Int)=some (if zs=ys then .inr () else .inl false):=by
 intro zs
 induction zs with
 | nil =>
   intro ys p q m hl hpq _ _ _ hm
   obtain ⟨m,rfl⟩:=zc m (by omega)
   obtain rfl:ys=[]:=length_eq_zero_iff.1 (by simpa using hl)
   rw[f24.l0,DD]
   rfl
 | cons z zs ih =>
   intro ys p q m hl hpq hz hy hb hm
   obtain ⟨m,rfl⟩:=zc m (by omega)
   cases ys with
   | nil=>simp at hl
   | cons y ys =>
     rw[f24.l0,DB,Cu]
     simp only[hpq,Cu,BS,Ba]
     rw[← hpq]
     simp only[Ba,CD,zA,Ay,AV]
     rw[hpq]
     simp only[CD]
     rw[gY n (hz z (by simp)) (hy y (by simp)),← hpq]
     simp only[AJ,IT]
     cases h:z==y
     ·simp only[beq_eq_false_iff_ne,ne_eq] at h
      simp[Af,h]
     ·simp only[beq_iff_eq] at h
      subst h
      rw[AV,Bt (z:=z) (by simp at hb;omega)]
      have:=ih ys (p++[z]) (q++[z]) m (by simpa using hl) (by simp[hpq]) (fun x hx=>hz x (by simp[hx])) (fun x hx=>hy x (by simp[hx])) (by simp at hb ⊢;omega) (by simp at hm;omega)
      simpa using this
theorem T3 (n:Nat) (xs ys:List Nat) (hx:∀ x∈xs,BX x) (hy:∀ x∈ys,BX x) (hl:xs.length≤1048576) (hn:xs.length<n):f24 (n+5) xs.length (AL .f32 xs) ys.length (AL .f32 ys)=some (decide (xs=ys)):=by
 rw[f24]
 by_cases h:ys.length=xs.length
 ·rw[show (((xs.length:Nat):Int) != ((ys.length:Nat):Int))=false by simp[h],Af]
  have:=QX n xs ys [] [] (n+4) h rfl hx hy (by simpa using hl) (by omega)
  simp only[nil_append,length_nil] at this
  rw[show ((0:Nat):Int)=0 from rfl] at this
  rw[this,AJ]
  by_cases e:xs=ys
  ·rw[if_pos e,decide_eq_true e];rfl
  ·rw[if_neg e,decide_eq_false e];rfl
 ·rw[show (((xs.length:Nat):Int) != ((ys.length:Nat):Int))=true by simp;omega,decide_eq_false (fun e=>h (by rw[e]))]
  rfl
theorem gS (n l:Nat) (c:List T):f48 (n+1) l c=some (l,c,0,0):=by rw[f48]
theorem bA (n:Nat) {bs:List Int} (hb:ED bs) {a:Int} (h0:0≤a) (h1:a≤1125899906842624) (sd:Int) :
  ∃ r sd',(0≤r∧r≤255)∧f111 (n+1) bs.length (its .u8 bs) a sd=some (r,bs.length,its .u8 bs,a+1,sd'):=by
 rw[f111]
 rw[show IntKind.i64.wrap (a+1)=a+1 by rw[BD] <;>omega]
 cases h:decide (a<(bs.length:Int))
 ·simp only[Af]
  cases decide (a+1≤(bs.length:Int))
  ·exact ⟨_,_,Yr _,rfl⟩
  ·exact ⟨0,_,by omega,rfl⟩
 ·simp only[decide_eq_true_eq] at h
  obtain ⟨i,rfl⟩:=Int.eq_ofNat_of_zero_le h0
  have hi:i<bs.length:=by omega
  have hr:=hb (bs[i]) (List.getElem_mem _)
  simp only[AV,A1 hi,zT,Ot hi,zA,Ay,Rq]
  rw[show bs.getD i 0=bs[i] by simp[List.getD,hi],show IntKind.i64.wrap bs[i]=bs[i] by rw[BD] <;>omega]
  cases decide ((i:Int)+1≤(bs.length:Int))
  ·exact ⟨_,_,Yr _,rfl⟩
  ·exact ⟨_,_,hr,rfl⟩
theorem Ca (n:Nat) {bs:List Int} (hb:ED bs) {a:Int} (h0:0≤a) (h1:a≤1125899906842622) (sd k:Int) :
  ∃ r a' sd',(0≤r∧(1<k→r<k)∧(k≤1→r=0))∧(a≤a'∧a'≤a+2)∧f83 (n+2) bs.length (its .u8 bs) a sd k=some (r,bs.length,its .u8 bs,a',sd'):=by
 rw[f83]
 by_cases hk:k≤1
 ·rw[decide_eq_true hk];exact ⟨0,a,sd,by omega,by omega,rfl⟩
 rw[decide_eq_false hk]
 obtain ⟨r,s1,hr,e1⟩:=bA n hb h0 (by omega) sd
 simp only[Af,e1,AJ]
 have hk0:(!decide (k=0))=true:=by simp;omega
 by_cases hk2:k>200
 ·rw[decide_eq_true hk2]
  obtain ⟨r',s2,hr',e2⟩:=bA n hb (a:=a+1) (by omega) (by omega) s1
  simp only[AV,e2,AJ,hk0,Ay]
  rw[show IntKind.i64.wrap (r * 256)=r * 256 by rw[BD] <;>omega,show IntKind.i64.wrap (r * 256+r')=r * 256+r' by rw[BD] <;>omega]
  refine ⟨_,_,_,?_,?_,rfl⟩
  ·rw[Int.tmod_eq_emod_of_nonneg (by omega)]
   have:=Int.emod_nonneg (r * 256+r') (show k≠0 by omega)
   have:=Int.emod_lt_of_pos (r * 256+r') (show 0<k by omega)
   omega
  ·omega
 ·rw[decide_eq_false hk2]
  simp only[Af,hk0,Ay]
  refine ⟨_,_,_,?_,?_,rfl⟩
  ·rw[Int.tmod_eq_emod_of_nonneg (by omega)]
   have:=Int.emod_nonneg r (show k≠0 by omega)
   have:=Int.emod_lt_of_pos r (show 0<k by omega)
   omega
  ·omega
theorem Gt (n:Nat) {bs:List Int} (hb:ED bs) {a:Int} (h0:0≤a) (h1:a≤1125899906842622) (sd k:Int) :
  ∃ r a' sd',(a≤a'∧a'≤a+2)∧f84 (n+3) bs.length (its .u8 bs) a sd k=some (r,bs.length,its .u8 bs,a',sd'):=by
 obtain ⟨r,a',s',-,ha,e⟩:=Ca n hb h0 h1 sd k
 rw[f84,e]
 exact ⟨_,_,_,ha,rfl⟩
theorem S3 (n:Nat) {bs:List Int} (hb:ED bs) {a:Int} (h0:0≤a) (h1:a≤1125899906842620) (sd:Int) :
  ∃ x a' sd',Lo x∧(a≤a'∧a'≤a+4)∧f114 (n+4) bs.length (its .u8 bs) a sd=some (x,bs.length,its .u8 bs,a',sd'):=by
 obtain ⟨r,a1,s1,hr,ha,e⟩:=Ca (n+1) hb h0 (by omega) sd 129
 obtain ⟨b,a2,s2,ha2,e2⟩:=Gt n hb (a:=a1) (by omega) (by omega) s1 4
 rw[f114,e]
 simp only[AJ,e2]
 rw[show IntKind.i64.wrap (r - 64)=r - 64 by rw[BD] <;>omega]
 cases b
 ·exact ⟨_,a2,s2,⟨r - 64,by omega,.inr rfl⟩,by omega,rfl⟩
 ·exact ⟨_,a2,s2,⟨r - 64,by omega,.inl rfl⟩,by omega,rfl⟩
theorem Wn (n:Nat) {bs:List Int} (hb:ED bs) {a:Int} (h0:0≤a) (h1:a≤1125899906842622) (sd:Int) (L:List Int) (hL:0<L.length) :
  ∃ r a' sd',r∈L∧(a≤a'∧a'≤a+2)∧f143 (n+3) bs.length (its .u8 bs) a sd L.length (its .i64 L)=some (r,bs.length,its .u8 bs,a',sd',L.length,its .i64 L):=by
 obtain ⟨r,a1,s1,hr,ha,e⟩:=Ca n hb h0 h1 sd (L.length:Int)
 rw[f143,e]
 obtain ⟨i,rfl⟩:=Int.eq_ofNat_of_zero_le hr.1
 have hi:i<L.length:=by
  by_cases h:(L.length:Int)≤1
  ·have:=hr.2.2 h;omega
  ·have:=hr.2.1 (by omega);omega
 simp only[AJ,A1 hi,zT,Ot hi,zA,Ay,Rq]
 refine ⟨_,_,_,?_,ha,rfl⟩
 rw[show L.getD i 0=L[i] by simp[List.getD,hi]]
 exact List.getElem_mem _
theorem LT (n:Nat) {i:Int} (h0:0≤i) (h1:i<4294967296):∃ x,BX x∧f142 (n+2) i=some x:=by
 rw[f142]
 refine ⟨At .f32 i.toNat,Ym (by omega),?_⟩
 rw[Tk h0 h1]
 show bd (if 0≤i then some (At .f32 i.toNat) else none) _=_
 rw[if_pos h0];rfl
theorem MA (n:Nat) {bs:List Int} (hb:ED bs) {a:Int} (h0:0≤a) (h1:a≤1125899906842600) (sd:Int) :
  ∃ x a' sd',BX x∧(a≤a'∧a'≤a+16)∧f113 (n+5) bs.length (its .u8 bs) a sd=some (x,bs.length,its .u8 bs,a',sd'):=by
 obtain ⟨b,a1,s1,ha1,e1⟩:=Gt (n+1) hb h0 (by omega) sd 12
 rw[f113,e1]
 simp only[AJ,IT]
 cases b
 ·obtain ⟨x,a2,s2,hx,ha2,e2⟩:=S3 n hb (a:=a1) (by omega) (by omega) s1
  simp only[Af,e2,AJ]
  exact ⟨_,_,_,hx.w32,by omega,rfl⟩
 obtain ⟨q,a2,s2,-,ha2,e2⟩:=Ca (n+2) hb (a:=a1) (by omega) (by omega) s1 4
 simp only[AV,e2,AJ]
 cases q==0
 case true =>
  obtain ⟨r,a3,s3,hr,ha3,e3⟩:=Wn (n+1) hb (a:=a2) (by omega) (by omega) s2 [0,2147483648,2139095040,4286578688,2143289344,1,2139095039,8388608,8388607,2147483649] (by decide)
  have hr':0≤r∧r<4294967296:=by simp only[mem_cons,not_mem_nil,or_false] at hr;omega
  obtain ⟨x,hx,e4⟩:=LT (n+2) hr'.1 hr'.2
  rw[AV]
  refine ⟨x,a3,s3,hx,by omega,?_⟩
  refine Eq.trans (congrArg (fun o=>bd o _) e3) ?_
  simp only[AJ,e4]
 cases q==1
 case true =>
  obtain ⟨r,a3,s3,hr,ha3,e3⟩:=Ca (n+2) hb (a:=a2) (by omega) (by omega) s2 65536
  obtain ⟨r',a4,s4,hr',ha4,e4⟩:=Ca (n+2) hb (a:=a3) (by omega) (by omega) s3 65536
  obtain ⟨x,hx,e5⟩:=LT (n+2) (i:=r * 65536+r') (by omega) (by omega)
  simp only[Af,AV,e3,e4,AJ]
  rw[show IntKind.i64.wrap (r * 65536)=r * 65536 by rw[BD] <;>omega,show IntKind.i64.wrap (r * 65536+r')=r * 65536+r' by rw[BD] <;>omega,e5]
  exact ⟨x,_,_,hx,by omega,rfl⟩
 cases q==2
 case true =>
  obtain ⟨r,a3,s3,hr,ha3,e3⟩:=Ca (n+2) hb (a:=a2) (by omega) (by omega) s2 65536
  obtain ⟨x,hx,e5⟩:=LT (n+2) (i:=r * 65536) (by omega) (by omega)
  simp only[Af,AV,e3,AJ]
  rw[show IntKind.i64.wrap (r * 65536)=r * 65536 by rw[BD] <;>omega,e5]
  exact ⟨x,_,_,hx,by omega,rfl⟩
 obtain ⟨x,a3,s3,hx,ha3,e3⟩:=S3 n hb (a:=a2) (by omega) (by omega) s2
 obtain ⟨r,a4,s4,hr,ha4,e4⟩:=Wn (n+1) hb (a:=a3) (by omega) (by omega) s3 [8388608,2130706432,1610612736,536870912] (by decide)
 have hr':0≤r∧r<4294967296:=by simp only[mem_cons,not_mem_nil,or_false] at hr;omega
 obtain ⟨y,hy,e5⟩:=LT (n+2) hr'.1 hr'.2
 simp only[Af,e3,AJ]
 refine ⟨_,a4,s4,G8 x y,by omega,?_⟩
 refine Eq.trans (congrArg (fun o=>bd o _) e4) ?_
 simp only[AJ,e5]
theorem Qu (n:Nat) {bs:List Int} (hb:ED bs) (str:Bool):∀ (j m:Nat) (a sd:Int) (acc:List Nat),0≤a→a+16 * (j:Int)≤1125899906842000→acc.length+j≤2147483647→j<m→(∀ x∈acc,BX x) →
  ∃ ys a' sd',ys.length=acc.length+j∧(∀ x∈ys,BX x)∧(a≤a'∧a'≤a+16 * (j:Int)) ∧
   f86.l0 (n+5) m bs.length (its .u8 bs) a sd (j:Int) acc.length (AL .f32 acc) str=some (bs.length,its .u8 bs,a',sd',ys.length,AL .f32 ys):=by
 intro j
 induction j with
 | zero =>
   intro m a sd acc h0 h1 hl hm hw
   obtain ⟨m,rfl⟩:=zc m (by omega)
   rw[f86.l0]
   exact ⟨acc,a,sd,by omega,hw,by omega,rfl⟩
 | succ j ih =>
   intro m a sd acc h0 h1 hl hm hw
   obtain ⟨m,rfl⟩:=zc m (by omega)
   rw[f86.l0,decide_eq_true (show (((j+1:Nat):Int)>0) by omega),show IntKind.i64.wrap (((j+1:Nat):Int) - 1)=(j:Int) by rw[BD] <;>omega]
   have key:∀ x a1 s1,BX x→a≤a1→a1≤a+16→∃ ys a' sd',ys.length=acc.length+(j+1)∧(∀ x∈ys,BX x)∧(a≤a'∧a'≤a+16 * ((j+1:Nat):Int)) ∧
     f86.l0 (n+5) m bs.length (its .u8 bs) a1 s1 (j:Int) (acc++[x]).length (AL .f32 (acc++[x])) str=some (bs.length,its .u8 bs,a',sd',ys.length,AL .f32 ys):=by
    intro x a1 s1 hx h2 h3
    obtain ⟨ys,a',sd',hy,hyw,ha,e⟩:=ih m a1 s1 (acc++[x]) (by omega) (by omega) (by simp;omega) (by omega) (by
     intro y hy;simp only[mem_append,mem_singleton] at hy;rcases hy with hy | rfl
     ·exact hw y hy
     ·exact hx)
    exact ⟨ys,a',sd',by simp at hy;omega,hyw,by omega,e⟩
   simp only[AV]
   cases str
   ·obtain ⟨x,a1,s1,hx,ha,e⟩:=S3 (n+1) hb h0 (by omega) sd
    simp only[Af,e,AJ,An (show acc.length<2147483648 by omega),Ay,B4]
    rw[show acc.length+1=(acc++[x]).length by simp]
    exact key x a1 s1 hx.w32 (by omega) (by omega)
   ·obtain ⟨x,a1,s1,hx,ha,e⟩:=MA n hb h0 (by omega) sd
    simp only[AV,e,AJ,An (show acc.length<2147483648 by omega),Ay,B4]
    rw[show acc.length+1=(acc++[x]).length by simp]
    exact key x a1 s1 hx (by omega) (by omega)
theorem aW (n:Nat) {bs:List Int} (hb:ED bs) {a:Int} (h0:0≤a) (j:Nat) (h1:a+16 * (j:Int)≤1125899906841000) (hj:j≤2147483647) (hn:j<n) (sd:Int) :
  ∃ ys a' sd',ys.length=j∧(∀ x∈ys,BX x)∧(a≤a'∧a'≤a+2+16 * (j:Int))∧f86 (n+6) bs.length (its .u8 bs) a sd (j:Int)=some (ys.length,AL .f32 ys,bs.length,its .u8 bs,a',sd'):=by
 obtain ⟨b,a1,s1,ha1,e1⟩:=Gt (n+2) hb h0 (by omega) sd 4
 obtain ⟨ys,a2,s2,hy,hw,ha2,e2⟩:=Qu n hb b j (n+5) a1 s1 [] (by omega) (by omega) (by simp;omega) (by omega) (by simp)
 rw[f86,e1]
 refine ⟨ys,a2,s2,by simpa using hy,hw,by omega,?_⟩
 have e2:f86.l0 (n+5) (n+5) bs.length (its .u8 bs) a1 s1 (j:Int) 0 (reps 0 [(T.flt FloatKind.f32 0)]) b=some (bs.length,its .u8 bs,a2,s2,ys.length,AL .f32 ys):=e2
 simp only[AJ,e2]
theorem XD (n k:Nat) (l:List T):f65 (n+1) k l=some (decide ((k:Int)≤256)):=by rw[f65]
theorem W2 (n k:Nat) (l:List T):f91 (n+1) k l=some (decide ((k:Int)≤256)):=by rw[f91]
theorem Xn (n:Nat) (a b c:Int):f28 (n+1) a b c=some (decide (b≤a∧a≤c)):=by
 rw[f28]
 by_cases h:b≤a <;>simp[br,h]
theorem V1 (n:Nat) (a b c:Int):f92 (n+1) a b c=some (decide (b≤a∧a≤c)):=by
 rw[f92]
 by_cases h:b≤a <;>simp[br,h]
theorem kW (n:Nat) {x:Nat} (h:x<4294967296):f160 (n+1) x=some (RD x):=by
 rw[f160,← bq h]
 cases TG .f32 x 0 <;>cases flt .f32 x 8388608 <;>rfl
theorem Sa (n:Nat) {x:Nat} (h:BX x):f133 (n+2) x=some (Hb x):=by
 rw[f133,kW n h.1,AJ,IT]
 have hx:=h.1
 cases hs:RD x
 ·rw[Af]
  unfold RD at hs
  unfold Hb
  simp at hs
  split
  ·congr 1;omega
  ·rfl
 ·have hs' :=hs
  unfold RD at hs
  simp at hs
  have hn:isNaN .f32 x=false:=by rw[O6];simp;omega
  obtain ⟨y,e1,e2⟩:=Xo n hx hn
  rw[AV,Cs]
  simp only[AJ,e1,e2]
  unfold Hb
  rw[if_pos hs.2]
theorem B9 (n:Nat) {x:Nat} (b:Bool) (h:BX x):f173 (n+3) x b=some (fl? b x):=by
 rw[f173]
 cases b
 ·rfl
 ·simp only[AV,Sa n h,AJ];rfl
theorem bv (n:Nat) (f:SF) (form:Int) (b:Bool) (m:Yn) (x:Nat) (hm:UN m) (hx:BX x) :
  f159 (n+4) f.1 f.2.1 f.2.2.1 f.2.2.2.1 f.2.2.2.2 form b m.1 m.2.1 m.2.2.1 m.2.2.2 x =
   some ((BK f form b m x).1,(BK f form b m x).2.1,(BK f form b m x).2.2.1,(BK f form b m x).2.2.2.1,(BK f form b m x).2.2.2.2):=by
 obtain ⟨m1,m2,m3,m4⟩:=hm
 rw[f159]
 unfold BK
 by_cases h0:form=0
 ·simp only[h0,beq_self_eq_true,AV,if_true,B9 n b (Ck _ _),AJ,B9 n b hx,B9 n b m1,B9 n b m3,B9 n b (w32_fl? (b:=b) (Ck _ _))]
 ·have h0':(form==0)=false:=by simp[h0]
  simp only[h0',Af,if_neg h0]
  by_cases h1:form=1
  ·simp only[h1,beq_self_eq_true,AV,if_true,B9 n b (Ck _ _),B9 n b (BV _ _),B9 n b BZ,AJ]
  ·have h1':(form==1)=false:=by simp[h1]
   simp only[h1',Af,if_neg h1,B9 n b (Ck _ _),AJ,B9 n b (BV _ _),B9 n b (w32_fl? (b:=b) (Ck _ _)),B9 n b m1,B9 n b BZ]
theorem Ur (n:Nat) (f:SF) (form:Int) (b:Bool) (N:Nat) (cs:List T) (u:Yn):∀ (zs p acc:List Nat) (mm:Yn) (m:Nat),(∀ x∈zs,BX x)→UN mm→acc.length+zs.length<1048576→p.length+zs.length<1048576→zs.length<m →
  f131.l0 (n+4) m form b N cs f.1 f.2.1 f.2.2.1 f.2.2.2.1 f.2.2.2.2 mm.1 mm.2.1 mm.2.2.1 mm.2.2.2 u.1 u.2.1 u.2.2.1 u.2.2.2 acc.length (AL .f32 acc) (p++zs).length (AL .f32 (p++zs)) ((p++zs).length:Int) (p.length:Int) =
   some ((AR (BK f form b) mm zs).2.1,(AR (BK f form b) mm zs).2.2.1,(AR (BK f form b) mm zs).2.2.2.1,(AR (BK f form b) mm zs).2.2.2.2,u.1,u.2.1,u.2.2.1,u.2.2.2,(acc++(AR (BK f form b) mm zs).1).length,AL .f32 (acc++(AR (BK f form b) mm zs).1)):=by
 intro zs
 induction zs with
 | nil =>
   intro p acc mm m _ _ _ _ hm
   obtain ⟨m,rfl⟩:=zc m (by omega)
   rw[f131.l0,DD]
   simp[Af,AR]
 | cons z zs ih =>
   intro p acc mm m hz hmm ha hp hm
   obtain ⟨m,rfl⟩:=zc m (by omega)
   have hp':p.length<1048576:=by simp at hp;omega
   have ha':acc.length<1048576:=by simp at ha;omega
   have hw:=hz z (by simp)
   rw[f131.l0,DB,Cu,BS,Ba,CD]
   simp only[AV,Ay,zA,bv n f form b mm z hmm hw,AJ,An (show acc.length<2147483648 by omega),B4,Bt (z:=z) (show p.length<4611686018427387904 by omega)]
   have:=ih (p++[z]) (acc++[(BK f form b mm z).1]) (BK f form b mm z).2 m (fun x hx=>hz x (by simp[hx])) (Mw hmm hw).2 (by simp at ha ⊢;omega) (by simp at hp ⊢;omega) (by simp at hm;omega)
   simpa [AR] using this
theorem gD (n:Nat) (f:SF) (form:Int) (b:Bool) (mm:Yn) (xs:List Nat) (hx:∀ x∈xs,BX x) (hm:UN mm) (hl:xs.length<1048576) (hn:xs.length<n) :
  f131 (n+5) f.1 f.2.1 f.2.2.1 f.2.2.2.1 f.2.2.2.2 form b mm.1 mm.2.1 mm.2.2.1 mm.2.2.2 xs.length (AL .f32 xs) =
   some ((AR (BK f form b) mm xs).1.length,AL .f32 (AR (BK f form b) mm xs).1,(AR (BK f form b) mm xs).2.1,(AR (BK f form b) mm xs).2.2.1,(AR (BK f form b) mm xs).2.2.2.1,(AR (BK f form b) mm xs).2.2.2.2):=by
 rw[f131]
 have e:=Ur n f form b xs.length (AL .f32 xs) (0,0,0,0) xs [] [] mm (n+4) hx hm (by simpa using hl) (by simpa using hl) (by omega)
 have e:f131.l0 (n+4) (n+4) form b xs.length (AL .f32 xs) f.1 f.2.1 f.2.2.1 f.2.2.2.1 f.2.2.2.2 mm.1 mm.2.1 mm.2.2.1 mm.2.2.2 0 0 0 0 0 [] xs.length (AL .f32 xs) (xs.length:Int) 0=_:=e
 rw[e];rfl
theorem Gg (n:Nat) {bs:List Int} (hb:ED bs) {a:Int} (h0:0≤a) (h1:a≤1125899906842500) (sd:Int) :
  ∃ x a' sd',BX x∧(a≤a'∧a'≤a+20)∧f165 (n+6) bs.length (its .u8 bs) a sd=some (x,bs.length,its .u8 bs,a',sd'):=by
 obtain ⟨b,a1,s1,ha1,e1⟩:=Gt (n+2) hb h0 (by omega) sd 8
 rw[f165,e1]
 simp only[AJ]
 cases b
 ·obtain ⟨c,a2,s2,ha2,e2⟩:=Gt (n+2) hb (a:=a1) (by omega) (by omega) s1 3
  simp only[Af,e2,AJ]
  cases c
  ·obtain ⟨r,a3,s3,hr,ha3,e3⟩:=Ca (n+3) hb (a:=a2) (by omega) (by omega) s2 33
   simp only[Af,e3,AJ]
   exact ⟨_,a3,s3,E7 _ _,by omega,rfl⟩
  ·exact ⟨0,a2,s2,BZ,by omega,rfl⟩
 ·obtain ⟨x,a2,s2,hx,ha2,e2⟩:=MA n hb (a:=a1) (by omega) (by omega) s1
  simp only[AV,e2,AJ]
  exact ⟨x,a2,s2,hx,by omega,rfl⟩
theorem ap (n:Nat) {bs:List Int} (hb:ED bs) {a:Int} (h0:0≤a) (h1:a≤1125899906842000) (sd:Int) :
  ∃ (f:SF) (a' sd':Int),(BX f.1∧BX f.2.1∧BX f.2.2.1∧BX f.2.2.2.1∧BX f.2.2.2.2)∧(a≤a'∧a'≤a+200)∧f140 (n+7) bs.length (its .u8 bs) a sd=some (f.1,f.2.1,f.2.2.1,f.2.2.2.1,f.2.2.2.2,bs.length,its .u8 bs,a',sd'):=by
 obtain ⟨x1,a1,s1,w1,ha1,e1⟩:=Gg n hb h0 (by omega) sd
 obtain ⟨x2,a2,s2,w2,ha2,e2⟩:=Gg n hb (a:=a1) (by omega) (by omega) s1
 obtain ⟨x3,a3,s3,w3,ha3,e3⟩:=Gg n hb (a:=a2) (by omega) (by omega) s2
 obtain ⟨r4,a4,s4,-,ha4,e4⟩:=Ca (n+4) hb (a:=a3) (by omega) (by omega) s3 15
 obtain ⟨r5,a5,s5,-,ha5,e5⟩:=Ca (n+4) hb (a:=a4) (by omega) (by omega) s4 7
 obtain ⟨b6,a6,s6,ha6,e6⟩:=Gt (n+3) hb (a:=a5) (by omega) (by omega) s5 4
 rw[f140,e1]
 simp only[AJ,e2,e3,e4,e5,e6]
 cases b6
 ·obtain ⟨b7,a7,s7,ha7,e7⟩:=Gt (n+3) hb (a:=a6) (by omega) (by omega) s6 4
  simp only[Af,e7,AJ]
  cases b7
  ·exact ⟨(x1,x2,x3,_,_),a7,s7,⟨w1,w2,w3,E7 _ _,E7 _ _⟩,by omega,rfl⟩
  ·obtain ⟨x8,a8,s8,w8,ha8,e8⟩:=Gg n hb (a:=a7) (by omega) (by omega) s7
   simp only[AV,e8,AJ]
   exact ⟨(x1,x2,x3,_,x8),a8,s8,⟨w1,w2,w3,E7 _ _,w8⟩,by omega,rfl⟩
 ·obtain ⟨x7,a7,s7,w7,ha7,e7⟩:=Gg n hb (a:=a6) (by omega) (by omega) s6
  obtain ⟨b8,a8,s8,ha8,e8⟩:=Gt (n+3) hb (a:=a7) (by omega) (by omega) s7 4
  simp only[AV,e7,e8,AJ]
  cases b8
  ·exact ⟨(x1,x2,x3,x7,_),a8,s8,⟨w1,w2,w3,w7,E7 _ _⟩,by omega,rfl⟩
  ·obtain ⟨x9,a9,s9,w9,ha9,e9⟩:=Gg n hb (a:=a8) (by omega) (by omega) s8
   simp only[AV,e9,AJ]
   exact ⟨(x1,x2,x3,x7,x9),a9,s9,⟨w1,w2,w3,w7,w9⟩,by omega,rfl⟩
theorem ID (n k:Nat) (h:k≤2147483648):f93 (n+1) (k:Int)=some (k,AL .f32 (List.replicate k 0)):=by
 rw[f93,decide_eq_true (show (0:Int)≤(k:Int)∧(k:Int)≤2147483648 by omega),Ay,zT,L2]
theorem JG (n:Nat) (xs:List Nat) (h:xs.length≤2147483648):f79 (n+1) xs.length (AL .f32 xs)=some (xs.length,AL .f32 xs):=by
 rw[f79,Nat.zero_add,Dj h];rfl
theorem dJ (n:Nat) (w:Nat) (ws:List Nat) (x:Nat) (h:ws.length<2147483648):f132 (n+2) (w::ws).length (AL .f32 (w::ws)) x=some ((ws++[x]).length,AL .f32 (ws++[x])):=by
 rw[f132,decide_eq_true (by simp;omega:(0:Int)≤1∧(1:Int)≤((w::ws).length:Int)∧((w::ws).length:Int)≤((w::ws).length:Int)),MI,I3]
 rw[show (w::ws).length - 1=ws.length by simp,show ((w::ws).drop 1).take ws.length=ws by simp,JG n ws (by omega)]
 simp only[Ay,AJ,An h,B4]
 rw[A6 (z:=x)]
theorem MW (n:Nat) (x:Int):f58 (n+1) x=some x:=by rw[f58]
theorem Yx (n:Nat) (x:Nat):f168 (n+1) x=some (CO x):=by rw[f168,PA]
theorem cm (n:Nat) {i:Int} (h0:0≤i) (h1:i<4294967296):f142 (n+2) i=some (At .f32 i.toNat):=by
 rw[f142,Tk h0 h1]
 show bd (if 0≤i then some (At .f32 i.toNat) else none) _=_
 rw[if_pos h0];rfl
theorem S0 (n:Nat) (N:Nat) (cs:List T) (by_:Nat):∀ (zs p acc:List Nat) (m:Nat),acc.length+zs.length<1048576→p.length+zs.length<1048576→zs.length<m →
  f130.l0 n m N cs by_ acc.length (AL .f32 acc) (p++zs).length (AL .f32 (p++zs)) ((p++zs).length:Int) (p.length:Int)=some ((acc++zs.map fun z=>AM .f32 z by_).length,AL .f32 (acc++zs.map fun z=>AM .f32 z by_)):=by
 intro zs
 induction zs with
 | nil =>
   intro p acc m _ _ hm
   obtain ⟨m,rfl⟩:=zc m (by omega)
   rw[f130.l0,DD]
   simp[Af]
 | cons z zs ih =>
   intro p acc m ha hp hm
   obtain ⟨m,rfl⟩:=zc m (by omega)
   have ha':acc.length<1048576:=by simp at ha;omega
   rw[f130.l0,DB,Cu,BS,Ba,CD]
   have:=ih (p++[z]) (acc++[AM .f32 z by_]) m (by simp at ha ⊢;omega) (by simp at hp ⊢;omega) (by simp at hm;omega)
   simp only[AV,Ay,zA,B4,An (show acc.length<2147483648 by omega),Bt (z:=z) (show p.length<4611686018427387904 by simp at hp;omega)]
   simpa using this
theorem YZ (n:Nat) (xs:List Nat) (by_:Nat) (hx:xs.length<1048576) (hn:xs.length<n):f130 (n+1) xs.length (AL .f32 xs) by_=some ((xs.map fun z=>AM .f32 z by_).length,AL .f32 (xs.map fun z=>AM .f32 z by_)):=by
 rw[f130]
 have e:=S0 n xs.length (AL .f32 xs) by_ xs [] [] n (by simpa using hx) (by simpa using hx) (by omega)
 have e:f130.l0 n n xs.length (AL .f32 xs) by_ 0 [] xs.length (AL .f32 xs) (xs.length:Int) 0=some ((xs.map fun z=>AM .f32 z by_).length,AL .f32 (xs.map fun z=>AM .f32 z by_)):=e
 rw[e];rfl
theorem K9 (n:Nat) {x:Nat} (hg:BX x):f177 (n+2) x=some (BF x):=by
 obtain ⟨h1,h2⟩:=au hg.1 hg.2 n
 rw[f177,Cs]
 simp only[bd,h1,h2]
def C0 (m:Nat) (xs:List Nat):Nat:=xs.foldl (fun m x=>if F4 .f32 (BF x) m then BF x else m) m
theorem VC (n:Nat) (N:Nat) (cs:List T):∀ (zs p:List Nat) (mx m:Nat),(∀ x∈zs,BX x)→p.length+zs.length<1048576→zs.length<m →
  f164.l0 (n+2) m N cs mx (p++zs).length (AL .f32 (p++zs)) ((p++zs).length:Int) (p.length:Int)=some (C0 mx zs):=by
 intro zs
 induction zs with
 | nil =>
   intro p mx m _ _ hm
   obtain ⟨m,rfl⟩:=zc m (by omega)
   rw[f164.l0,DD];rfl
 | cons z zs ih =>
   intro p mx m hz hp hm
   obtain ⟨m,rfl⟩:=zc m (by omega)
   have ih' :=fun mx=>ih (p++[z]) mx m (fun x hx=>hz x (by simp[hx])) (by simp at hp ⊢;omega) (by simp at hm;omega)
   simp only[append_assoc,cons_append,nil_append] at ih'
   rw[f164.l0,DB,Cu,BS,Ba,CD]
   simp only[AV,Ay,zA,K9 n (hz z (by simp)),AJ,Bt (z:=z) (show p.length<4611686018427387904 by simp at hp;omega)]
   show _=some (C0 (if F4 .f32 (BF z) mx then BF z else mx) zs)
   cases F4 .f32 (BF z) mx
   ·exact ih' mx
   ·exact ih' _
theorem fu (n:Nat) (xs:List Nat) (hx:∀ x∈xs,BX x) (hl:xs.length<1048576) (hn:xs.length<n):f164 (n+3) xs.length (AL .f32 xs)=some (C0 0 xs):=by
 rw[f164]
 have e:=VC n xs.length (AL .f32 xs) xs [] 0 (n+2) hx (by simpa using hl) (by omega)
 have e:f164.l0 (n+2) (n+2) xs.length (AL .f32 xs) 0 xs.length (AL .f32 xs) (xs.length:Int) 0=some (C0 0 xs):=e
 rw[e];rfl
theorem iZ (n:Nat) (a r:Nat) {l x:Nat} (hx:BX x):f175 (n+3) a r l x=some (a,r,HB a r l x):=by
 rw[f175,K9 n hx]
 unfold HB
 simp only[AJ,Sa n (BV _ _)]
 cases F4 .f32 (BF x) l <;>rfl
theorem d5 (n l t q:Nat):f176 (n+1) l t q=some (OT l t q):=by
 rw[f176]
 unfold OT
 cases F4 .f32 l t <;>rfl
theorem UW (n:Nat) (a r t q u1 u2 u3 u4 u5:Nat) (M:Nat) (cs:List T):∀ (zs ys p s acc:List Nat) (l m:Nat),ys.length=zs.length→s.length=p.length→(∀ x∈ys,BX x)→acc.length+zs.length<1048576→p.length+zs.length<1048576→zs.length<m →
  f162.l0 (n+3) m M cs (s++ys).length (AL .f32 (s++ys)) a r l t q u1 u2 u3 u4 u5 acc.length (AL .f32 acc) (p++zs).length (AL .f32 (p++zs)) ((p++zs).length:Int) (p.length:Int) =
   some (a,r,(AR (Bb a r t q) l (zs.zip ys)).2,t,q,u1,u2,u3,u4,u5,(acc++(AR (Bb a r t q) l (zs.zip ys)).1).length,AL .f32 (acc++(AR (Bb a r t q) l (zs.zip ys)).1)):=by
 intro zs
 induction zs with
 | nil =>
   intro ys p s acc l m _ _ _ _ _ hm
   obtain ⟨m,rfl⟩:=zc m (by omega)
   rw[f162.l0,DD];simp[Af,AR]
 | cons z zs ih =>
   intro ys p s acc l m hl hs hy ha hp hm
   obtain ⟨m,rfl⟩:=zc m (by omega)
   cases ys with
   | nil=>simp at hl
   | cons y ys =>
     have e1:AI [.flt .f32] (AL .f32 (s++y::ys)) p.length=true:=by rw[← hs];exact Ba
     have e2:BR (AL .f32 (s++y::ys)) p.length=y:=by rw[← hs];exact CD
     have e3:decide ((0:Int)≤(p.length:Int)∧(p.length:Int)<((s++y::ys).length:Int))=true:=by rw[← hs];exact Cu
     have ha':acc.length<1048576:=by simp at ha;omega
     rw[f162.l0,DB,Cu,BS,Ba,CD,e1,e2,e3]
     simp only[AV,Ay,zA,iZ n a r (hy y (by simp)),d5 (n+2),AJ,An (show acc.length<2147483648 by omega),B4,Bt (z:=z) (show p.length<4611686018427387904 by simp at hp;omega)]
     have:=ih ys (p++[z]) (s++[y]) (acc++[AM .f32 z (OT (HB a r l y) t q)]) (HB a r l y) m (by simpa using hl) (by simp[hs]) (fun x hx=>hy x (by simp[hx])) (by simp at ha ⊢;omega) (by simp at hp ⊢;omega) (by simp at hm;omega)
     simpa [AR,Bb] using this
theorem da (n:Nat) (a r l t q:Nat) (xs ys:List Nat) (hy:∀ x∈ys,BX x) (hlen:ys.length=xs.length) (hl:xs.length≤256) (hn:xs.length<n) :
  f162 (n+4) a r l t q xs.length (AL .f32 xs) ys.length (AL .f32 ys)=some ((AR (Bb a r t q) l (xs.zip ys)).1.length,AL .f32 (AR (Bb a r t q) l (xs.zip ys)).1,a,r,(AR (Bb a r t q) l (xs.zip ys)).2,t,q,true):=by
 rw[f162,W2,decide_eq_true (show (xs.length:Int)≤256 by omega),show (((ys.length:Nat):Int) != ((xs.length:Nat):Int))=false by simp[hlen]]
 have e:=UW n a r t q 0 0 0 0 0 xs.length (AL .f32 xs) xs ys [] [] [] l (n+3) hlen rfl hy (by simp;omega) (by simp;omega) (by omega)
 have e:f162.l0 (n+3) (n+3) xs.length (AL .f32 xs) ys.length (AL .f32 ys) a r l t q 0 0 0 0 0 0 [] xs.length (AL .f32 xs) (xs.length:Int) 0=_:=e
 simp only[AJ,IT,AV,Af,e];rfl
theorem R1 (n:Nat) (a r l t q:Nat) (xs:List Nat) (hx:∀ x∈xs,BX x) (hl:xs.length≤256) (hn:xs.length<n) :
  f134 (n+5) a r l t q xs.length (AL .f32 xs)=some ((AR (Bb a r t q) l (xs.zip xs)).1.length,AL .f32 (AR (Bb a r t q) l (xs.zip xs)).1,a,r,(AR (Bb a r t q) l (xs.zip xs)).2,t,q,true):=by
 rw[f134]
 simp only[da n a r l t q xs xs hx rfl hl hn,AJ]
theorem XR {x:Nat} (hx:BX x) (hf:CO x=true):AM .f32 x 1065353216=x:=by
 have hv:=IY hf
 by_cases h0:fval .f32 x=0
 ·rw[h0] at hv
  rcases KN hx.1 hv with rfl | rfl <;>decide
 ·have e:fval .f32 x * 1=fval .f32 x:=Rat.mul_one _
  obtain ⟨s,m,i,h1,h2,h3,h4⟩:=hv
  have hb:mv m i<p2 (GK .f32):=by
   obtain ⟨a1,a2,a3⟩:=DV h1
   have q:=(IA (m:=m) (n:=2 ^ 24) (e:=i)).2 (by omega)
   rw[CR] at q
   have q2:=It (show i+((24:Nat):Int)≤128 by omega)
   show mv m i<p2 128
   grind
  have habs:fval .f32 x≤mv m i ∧ -(mv m i)≤fval .f32 x:=by
   have:=Ap m i
   cases s <;>simp only[Cj,A5] at h2 <;>grind
  obtain ⟨R,q1,q2⟩:=FW (IY hf) Hr (B:=mv m i) ⟨m,i,h3,h4,rfl⟩ hb (by rw[e];exact habs.1) (by rw[e];exact habs.2)
  rw[e] at q2
  have q3:=q1.near_eq q2 (IY hf).rep
  exact Fr (Wv _ _ _) hx.1 q3 (IY hf) h0
theorem Th {x:Nat} (hx:BX x):AM .f32 x 1065353216=x:=by
 cases hf:CO x
 ·cases hn:isNaN .f32 x
  ·have h1:=Wd hn
   have h2:=hx.1
   unfold CO at hf
   simp only[decide_eq_false_iff_not] at hf
   have:x=2139095040∨x=4286578688:=by omega
   rcases this with rfl | rfl <;>decide
  ·have:x=D6 .f32:=by rw[← hx.2];exact BY hn
   rw[this];decide
 ·exact XR hx hf
def D3 (lim x:Nat):Nat:=if F4 .f32 (BF x) lim then (if flt .f32 x 0 then He .f32 lim else lim) else x
def L1 (lim p:Nat):Nat:=if F4 .f32 p lim then fdiv .f32 lim p else 1065353216
def Iy (t gn:Nat):Nat:=if flt .f32 t gn then t else if TG .f32 gn gn then t else gn
def AT (lim rise:Nat) (s:Nat × List Nat) (x:Nat):Nat × (Nat × List Nat) :=
 (D3 lim (AM .f32 ((s.2++[x]).getD 0 0) (Iy (L1 lim (C0 0 (s.2++[x]))) (Au .f32 s.1 rise))),(Iy (L1 lim (C0 0 (s.2++[x]))) (Au .f32 s.1 rise),(s.2++[x]).drop 1))
theorem TM {lim x:Nat} (hl:BX lim) (hx:BX x):BX (D3 lim x):=by
 unfold D3
 split
 ·split
  ·exact Z0 hl
  ·exact hl
 ·exact hx
theorem Ww:BX 1065353216:=⟨by decide,by decide⟩
theorem OM {t gn:Nat} (ht:BX t) (hg:BX gn):BX (Iy t gn):=by
 unfold Iy
 split
 ·exact ht
 ·split
  ·exact ht
  ·exact hg
theorem P4 {lim p:Nat}:BX (L1 lim p):=by
 unfold L1
 split
 ·exact E7 _ _
 ·exact Ww
theorem Va (lim rise:Nat):∀ (xs:List Nat) (s:Nat × List Nat),(AR (AT lim rise) s xs).2.2.length=s.2.length:=by
 intro xs
 induction xs with
 | nil=>intro s;rfl
 | cons x xs ih =>
   intro s
   simp only[AR]
   rw[ih]
   simp[AT]
theorem Zx (n:Nat) (lim:Nat) {x:Nat} (hx:BX x):f163 (n+3) x lim=some (D3 lim x):=by
 rw[f163,K9 n hx]
 simp only[AJ,IT]
 unfold D3
 cases F4 .f32 (BF x) lim <;>cases flt .f32 x 0 <;>rfl
theorem VV (n:Nat) (N:Nat) (cs:List T) (lim rise x8 x9 x10 n11:Nat) (l12:List T) (hl:BX lim):∀ (zs p acc:List Nat) (s:Nat × List Nat) (m:Nat),(∀ x∈zs,BX x)→(BX s.1∧EO s.2)→s.2.length≤64→acc.length+zs.length<1048576→p.length+zs.length<1048576→zs.length<m →
  f137.l0 (n+100) m N cs lim rise s.1 s.2.length (AL .f32 s.2) x8 x9 x10 n11 l12 acc.length (AL .f32 acc) (p++zs).length (AL .f32 (p++zs)) ((p++zs).length:Int) (p.length:Int) =
   some (lim,rise,(AR (AT lim rise) s zs).2.1,(AR (AT lim rise) s zs).2.2.length,AL .f32 (AR (AT lim rise) s zs).2.2,x8,x9,x10,n11,l12,(acc++(AR (AT lim rise) s zs).1).length,AL .f32 (acc++(AR (AT lim rise) s zs).1)):=by
 intro zs
 induction zs with
 | nil =>
   intro p acc s m _ _ _ _ _ hm
   obtain ⟨m,rfl⟩:=zc m (by omega)
   rw[f137.l0,DD]
   simp[Af,AR]
 | cons z zs ih =>
   intro p acc s m hz hs hw ha hp hm
   obtain ⟨m,rfl⟩:=zc m (by omega)
   have hp':p.length<1048576:=by simp at hp;omega
   have ha':acc.length<1048576:=by simp at ha;omega
   have hall:EO (s.2++[z]):=fun y hy=>by
    simp only[mem_append,mem_singleton] at hy
    rcases hy with h | rfl
    ·exact hs.2 y h
    ·exact hz _ (by simp)
   have hpk:=fu (n+97) (s.2++[z]) hall (by simp;omega) (by simp;omega)
   have hlen:s.2.length+1=(s.2++[z]).length:=by simp
   have c1:decide ((0:Int)≤1∧(1:Int)≤((s.2++[z]).length:Int)∧((s.2++[z]).length:Int)≤((s.2++[z]).length:Int))=true:=decide_eq_true (by simp;omega)
   have c2:((AL .f32 (s.2++[z])).drop 1).take ((s.2++[z]).length - 1)=AL .f32 ((s.2++[z]).drop 1):=by
    rw[MI,I3,take_of_length_le (by simp)]
   have c3:decide ((0:Int)≤0∧(0:Int)<((s.2++[z]).length:Int))=true:=decide_eq_true (by simp)
   have c4:AI [.flt .f32] (AL .f32 (s.2++[z])) 0=true:=BH (by simp)
   have c5:(s.2++[z]).length - 1=((s.2++[z]).drop 1).length:=by simp
   rw[c5] at c2
   have c6:Nat.ble (s.2++[z]).length 2147483648=true:=Dj (by simp;omega)
   have ih' :=ih (p++[z]) (acc++[(AT lim rise s z).1]) (AT lim rise s z).2 m (fun x hx=>hz x (by simp[hx]))
    ⟨OM P4 (BV _ _),fun y hy=>hall y (mem_of_mem_drop hy)⟩ (by simp[AT];omega) (by simp at ha ⊢;omega) (by simp at hp ⊢;omega) (by simp at hm;omega)
   rw[show p++[z]++zs=p++z::zs by simp] at ih'
   rw[f137.l0,DB,Cu,BS,Ba,CD]
   simp only[AV,Ay,zA,JG (n+99) s.2 (by omega),AJ,B4,hlen,hpk,c1,c2,c3,c4,Cy,c6,Zx (n+97) lim (G8 _ _),An (show acc.length<2147483648 by omega),Bt (z:=z) (show p.length<4611686018427387904 by omega),c5]
   have e1:AR (AT lim rise) s (z::zs)=((AT lim rise s z).1::(AR (AT lim rise) (AT lim rise s z).2 zs).1,(AR (AT lim rise) (AT lim rise s z).2 zs).2):=rfl
   rw[e1]
   have e2:∀ t gn,L1 lim (C0 0 (s.2++[z]))=t→Au .f32 s.1 rise=gn→∀ g,Iy t gn=g→AT lim rise s z=(D3 lim (AM .f32 ((s.2++[z]).getD 0 0) g),(g,(s.2++[z]).drop 1)):=by
    rintro t gn rfl rfl g rfl
    rfl
   have e3:acc++(AT lim rise s z).1::(AR (AT lim rise) (AT lim rise s z).2 zs).1=(acc++[(AT lim rise s z).1])++(AR (AT lim rise) (AT lim rise s z).2 zs).1:=by simp
   have e4:(acc++[(AT lim rise s z).1]).length=acc.length+1:=by simp
   simp only[e3]
   rw[e4] at ih'
   cases hc:F4 .f32 (C0 0 (s.2++[z])) lim
   ·have ht:L1 lim (C0 0 (s.2++[z]))=1065353216:=by unfold L1;simp[hc]
    cases h1:flt .f32 1065353216 (Au .f32 s.1 rise)
    ·cases h2:TG .f32 (Au .f32 s.1 rise) (Au .f32 s.1 rise)
     ·have e:=e2 _ _ ht rfl (Au .f32 s.1 rise) (by unfold Iy;simp[h1,h2])
      rw[e] at ih' ⊢
      exact ih'
     ·have e:=e2 _ _ ht rfl 1065353216 (by unfold Iy;simp[h1,h2])
      rw[e] at ih' ⊢
      exact ih'
    ·have e:=e2 _ _ ht rfl 1065353216 (by unfold Iy;simp[h1])
     rw[e] at ih' ⊢
     exact ih'
   ·have ht:L1 lim (C0 0 (s.2++[z]))=fdiv .f32 lim (C0 0 (s.2++[z])):=by unfold L1;simp[hc]
    cases h1:flt .f32 (fdiv .f32 lim (C0 0 (s.2++[z]))) (Au .f32 s.1 rise)
    ·cases h2:TG .f32 (Au .f32 s.1 rise) (Au .f32 s.1 rise)
     ·have e:=e2 _ _ ht rfl (Au .f32 s.1 rise) (by unfold Iy;simp[h1,h2])
      rw[e] at ih' ⊢
      exact ih'
     ·have e:=e2 _ _ ht rfl (fdiv .f32 lim (C0 0 (s.2++[z]))) (by unfold Iy;simp[h1,h2])
      rw[e] at ih' ⊢
      exact ih'
    ·have e:=e2 _ _ ht rfl (fdiv .f32 lim (C0 0 (s.2++[z]))) (by unfold Iy;simp[h1])
     rw[e] at ih' ⊢
     exact ih'
theorem Mi (n:Nat) (lim:Nat):f145 (n+2) lim=some (CO lim&&F4 .f32 lim 0):=by
 rw[f145,Yx]
 cases CO lim <;>rfl
theorem SH (n:Nat) (lim rise g:Nat) (w xs:List Nat) (hl:BX lim) (hlim:(CO lim&&F4 .f32 lim 0)=true) (hg:BX g) (hw:EO w) (hwl:w.length≤64) (hx:∀ x∈xs,BX x) (hxl:xs.length≤256) (hn:300<n) :
  f137 (n+101) lim rise g w.length (AL .f32 w) xs.length (AL .f32 xs) =
   some ((AR (AT lim rise) (g,w) xs).1.length,AL .f32 (AR (AT lim rise) (g,w) xs).1,lim,rise,(AR (AT lim rise) (g,w) xs).2.1,(AR (AT lim rise) (g,w) xs).2.2.length,AL .f32 (AR (AT lim rise) (g,w) xs).2.2,true):=by
 have e:=VV n xs.length (AL .f32 xs) lim rise 0 0 0 0 [] hl xs [] [] (g,w) (n+100) hx ⟨hg,hw⟩ hwl (by simp;omega) (by simp;omega) (by omega)
 have e:f137.l0 (n+100) (n+100) xs.length (AL .f32 xs) lim rise g w.length (AL .f32 w) 0 0 0 0 [] 0 [] xs.length (AL .f32 xs) (xs.length:Int) 0=_:=e
 have hlen:=Va lim rise xs (g,w)
 rw[f137,Mi,hlim,W2,JG (n+99) w (by omega),decide_eq_false (show ¬ (w.length:Int)>64 by omega),decide_eq_true (show (xs.length:Int)≤256 by omega)]
 simp only[AJ,IT,AV,Af,e,JG (n+99) (AR (AT lim rise) (g,w) xs).2.2 (by simp at hlen;omega),nil_append]
theorem TB (n:Nat) (N:Nat) (cs:List T) (lim:Nat):∀ (zs p acc:List Nat) (m:Nat),(∀ x∈zs,BX x)→acc.length+zs.length<1048576→p.length+zs.length<1048576→zs.length<m →
  f135.l0 (n+3) m N cs lim acc.length (AL .f32 acc) (p++zs).length (AL .f32 (p++zs)) ((p++zs).length:Int) (p.length:Int)=some ((acc++zs.map (D3 lim)).length,AL .f32 (acc++zs.map (D3 lim))):=by
 intro zs
 induction zs with
 | nil =>
   intro p acc m _ _ _ hm
   obtain ⟨m,rfl⟩:=zc m (by omega)
   rw[f135.l0,DD];simp[Af]
 | cons z zs ih =>
   intro p acc m hz ha hp hm
   obtain ⟨m,rfl⟩:=zc m (by omega)
   have ha':acc.length<1048576:=by simp at ha;omega
   rw[f135.l0,DB,Cu,BS,Ba,CD]
   simp only[AV,Ay,zA,Zx n lim (hz z (by simp)),AJ,An (show acc.length<2147483648 by omega),B4,Bt (z:=z) (show p.length<4611686018427387904 by simp at hp;omega)]
   have:=ih (p++[z]) (acc++[D3 lim z]) m (fun x hx=>hz x (by simp[hx])) (by simp at ha ⊢;omega) (by simp at hp ⊢;omega) (by simp at hm;omega)
   simpa using this
theorem bg (n:Nat) (lim:Nat) (xs:List Nat) (hx:∀ x∈xs,BX x) (hl:xs.length≤256) (hn:xs.length<n):f135 (n+4) xs.length (AL .f32 xs) lim=some (xs.length,AL .f32 (xs.map (D3 lim)),true):=by
 have e:=TB n xs.length (AL .f32 xs) lim xs [] [] (n+3) hx (by simp;omega) (by simp;omega) (by omega)
 have e:f135.l0 (n+3) (n+3) xs.length (AL .f32 xs) lim 0 [] xs.length (AL .f32 xs) (xs.length:Int) 0=_:=e
 rw[f135,W2,decide_eq_true (show (xs.length:Int)≤256 by omega)]
 simp only[AJ,IT,AV,e,nil_append,length_map]
structure BM where
 kind:Int
 len:Int
 nums:List Nat
def EN (e:BM):List T:=[.int .i64 e.kind,.int .i64 e.len,.lst e.nums.length (AL .f32 e.nums)]
def AH (es:List BM):List T:=es.flatMap EN
def Cg (es:List BM) (i:Nat):BM:=es.getD i ⟨5,0,[]⟩
theorem GF {c:Nat} (hc:c<3):∀ (ts:List BM) (i:Nat),i<ts.length→(AH ts)[i * 3+c]?=(EN (Cg ts i))[c]?
 | [],i,h=>by simp at h
 | t::ts,0,_=>by
   show (EN t++AH ts)[0 * 3+c]?=_
   rw[List.getElem?_append_left (by simp[EN];omega),Nat.zero_mul,Nat.zero_add];rfl
 | t::ts,i+1,h=>by
   show (EN t++AH ts)[(i+1) * 3+c]?=_
   rw[List.getElem?_append_right (by simp[EN];omega),show (i+1) * 3+c - (EN t).length=i * 3+c by simp[EN];omega,GF hc ts i (by simpa using h)]
   rfl
section
variable {ts:List BM} {i:Nat} (h:i<ts.length)
include h
theorem U5:AI [.int .i64,.int .i64,.lst] (AH ts) (i * 3+0)=true:=by
 have h0:=GF (c:=0) (by decide) ts i h
 have h1:=GF (c:=1) (by decide) ts i h
 have h2:=GF (c:=2) (by decide) ts i h
 simp only[EN,List.getElem?_cons_zero,List.getElem?_cons_succ] at h0 h1 h2
 rw[Nat.add_zero] at h0
 simp[AI,Nat.add_assoc,h0,h1,h2,MY]
theorem kE:Ed (AH ts) (i * 3+0)=(Cg ts i).kind:=by unfold Ed;rw[GF (c:=0) (by decide) ts i h];rfl
theorem gE:Ed (AH ts) (i * 3+0+1)=(Cg ts i).len:=by unfold Ed;rw[show i * 3+0+1=i * 3+1 from rfl,GF (c:=1) (by decide) ts i h];rfl
theorem nE:GZ (AH ts) (i * 3+0+1+1)=(Cg ts i).nums.length:=by unfold GZ;rw[show i * 3+0+1+1=i * 3+2 from rfl,GF (c:=2) (by decide) ts i h];rfl
theorem lE:HD (AH ts) (i * 3+0+1+1)=AL .f32 (Cg ts i).nums:=by unfold HD;rw[show i * 3+0+1+1=i * 3+2 from rfl,GF (c:=2) (by decide) ts i h];rfl
theorem Dl:ts.drop i=Cg ts i::ts.drop (i+1):=by
 rw[drop_eq_getElem_cons h]
 simp[Cg,List.getD,h]
theorem GN:Cg ts i∈ts:=by
 have:Cg ts i=ts[i]:=by simp[Cg,List.getD,h]
 rw[this];exact List.getElem_mem h
end
theorem E6 (acc:List BM) (e:BM):AH acc++AF (reps 1 [(T.int .i64 (0:Int)),(T.int .i64 (0:Int)),(T.lst 0 [])]) 0 (EN e)=AH (acc++[e]):=by
 unfold AH
 rw[flatMap_append,flatMap_singleton];rfl
theorem Ih (n:Nat) {bs:List Int} (hb:ED bs) {a:Int} (h0:0≤a) (h1:a≤1125899906842500) (sd:Int) :
  ∃ x a' sd',BX x∧(a≤a'∧a'≤a+20)∧f139 (n+6) bs.length (its .u8 bs) a sd=some (x,bs.length,its .u8 bs,a',sd'):=by
 obtain ⟨b,a1,s1,ha1,e1⟩:=Gt (n+2) hb h0 (by omega) sd 10
 obtain ⟨x,a2,s2,hx,ha2,e2⟩:=MA n hb (a:=a1) (by omega) (by omega) s1
 obtain ⟨r,a3,s3,-,ha3,e3⟩:=Ca (n+3) hb (a:=a1) (by omega) (by omega) s1 17
 rw[f139,e1]
 cases b
 ·simp only[AJ,Af,e3]
  exact ⟨_,a3,s3,E7 _ _,by omega,rfl⟩
 ·simp only[AJ,AV,e2]
  exact ⟨x,a2,s2,hx,by omega,rfl⟩
theorem ZY (n:Nat) {bs:List Int} (hb:ED bs) {a:Int} (h0:0≤a) (h1:a≤1125899906842300) (sd:Int) :
  ∃ x y z a' sd',(BX x∧BX y∧BX z)∧(a≤a'∧a'≤a+80)∧f166 (n+7) bs.length (its .u8 bs) a sd=some (x,y,z,bs.length,its .u8 bs,a',sd'):=by
 obtain ⟨x,a1,s1,hx,ha1,e1⟩:=Ih n hb h0 (by omega) sd
 obtain ⟨y,a2,s2,hy,ha2,e2⟩:=Ih n hb (a:=a1) (by omega) (by omega) s1
 obtain ⟨b,a3,s3,ha3,e3⟩:=Gt (n+3) hb (a:=a2) (by omega) (by omega) s2 2
 obtain ⟨z,a4,s4,hz,ha4,e4⟩:=MA (n+1) hb (a:=a3) (by omega) (by omega) s3
 rw[f166,e1]
 cases b
 ·simp only[AJ,e2,e3,Af]
  exact ⟨x,y,0,a3,s3,⟨hx,hy,BZ⟩,by omega,rfl⟩
 ·simp only[AJ,e2,e3,AV,e4]
  exact ⟨x,y,z,a4,s4,⟨hx,hy,hz⟩,by omega,rfl⟩
inductive Ef
 | scale (g:Nat)
 | filt (f1 f2 f3 f4 f5:Nat)
 | echo (L:Nat) (p q:Nat)
 | squeeze (p q r s:Nat)
 | clip (g:Nat)
 | bend
 | lim (A:Nat) (l:Nat) (r:Nat)
def ev (k:Nat):Nat:=fdiv .f32 (FloatKind.f32.nearest (1+(k:Int))) 1098907648
theorem ct:∀ k:Nat,k<16→(CO (ev k)&&F4 .f32 (ev k) 0)=true:=by decide +kernel
def Ef.eff:Ef→BM
 | .scale g=>⟨0,0,[g]⟩
 | .filt a b c d e=>⟨1,0,[a,b,c,d,e]⟩
 | .echo L p q=>⟨2,(L:Int),[p,q]⟩
 | .squeeze p q r s=>⟨3,0,[p,q,r,s]⟩
 | .clip g=>⟨4,0,[g]⟩
 | .bend=>⟨5,0,[]⟩
 | .lim A l r=>⟨6,(A:Int),[l,r]⟩
def Ef.Ok:Ef→Prop
 | .echo L _ _=>1≤L∧L≤32
 | .lim A l _=>A≤32∧BX l∧(CO l&&F4 .f32 l 0)=true
 | .clip g=>BX g
 | _=>True
theorem Zl (n:Nat) {bs:List Int} (hb:ED bs) {a:Int} (h0:0≤a) (h1:a≤1125899906842000) (sd:Int) :
  ∃ p q x r s a' sd',(a≤a'∧a'≤a+200)∧f141 (n+8) bs.length (its .u8 bs) a sd=some (p,q,x,r,s,bs.length,its .u8 bs,a',sd'):=by
 obtain ⟨x,y,z,a1,s1,-,ha1,e1⟩:=ZY n hb h0 (by omega) sd
 obtain ⟨w,a2,s2,-,ha2,e2⟩:=Ih (n+1) hb (a:=a1) (by omega) (by omega) s1
 obtain ⟨r,a3,s3,-,ha3,e3⟩:=Ca (n+5) hb (a:=a2) (by omega) (by omega) s2 8
 obtain ⟨b,a4,s4,ha4,e4⟩:=Gt (n+4) hb (a:=a3) (by omega) (by omega) s3 10
 obtain ⟨v,a5,s5,-,ha5,e5⟩:=MA (n+2) hb (a:=a4) (by omega) (by omega) s4
 rw[f141,e1]
 cases b
 ·simp only[AJ,e2,e3,e4,Af]
  exact ⟨x,y,z,w,_,a4,s4,by omega,rfl⟩
 ·simp only[AJ,e2,e3,e4,AV,e5]
  exact ⟨x,y,z,w,v,a5,s5,by omega,rfl⟩
theorem ZD (n:Nat) {bs:List Int} (hb:ED bs) {a:Int} (h0:0≤a) (h1:a≤1125899906840000) (sd:Int) :
  ∃ (e:Ef) (a' sd':Int),e.Ok∧(a≤a'∧a'≤a+400)∧f112 (n+9) bs.length (its .u8 bs) a sd=some (e.eff.kind,e.eff.len,e.eff.nums.length,AL .f32 e.eff.nums,bs.length,its .u8 bs,a',sd'):=by
 obtain ⟨k,a1,s1,hk,ha1,e1⟩:=Ca (n+6) hb h0 (by omega) sd 7
 have hk7:=hk.2.1 (by omega)
 have hk0:=hk.1
 obtain ⟨x,a2,s2,hx,ha2,e2⟩:=Ih (n+2) hb (a:=a1) (by omega) (by omega) s1
 obtain ⟨f,a3,s3,-,ha3,e3⟩:=ap (n+1) hb (a:=a1) (by omega) (by omega) s1
 obtain ⟨p,q,y,r,s,a4,s4,ha4,e4⟩:=Zl n hb (a:=a1) (by omega) (by omega) s1
 obtain ⟨L,b1,t1,hL,hb1,g1⟩:=Ca (n+6) hb (a:=a1) (by omega) (by omega) s1 5
 obtain ⟨L,rfl⟩:=Int.eq_ofNat_of_zero_le hL.1
 have hL5:=hL.2.1 (by omega)
 obtain ⟨u,b2,t2,-,hb2,g2⟩:=Ih (n+2) hb (a:=b1) (by omega) (by omega) t1
 obtain ⟨v,b3,t3,-,hb3,g3⟩:=Ih (n+2) hb (a:=b2) (by omega) (by omega) t2
 obtain ⟨m,c2,v2,hm,hc2,d2⟩:=Ca (n+6) hb (a:=b1) (by omega) (by omega) t1 16
 obtain ⟨m,rfl⟩:=Int.eq_ofNat_of_zero_le hm.1
 have hm16:=hm.2.1 (by omega)
 obtain ⟨w,c3,v3,-,hc3,d3⟩:=Ih (n+2) hb (a:=c2) (by omega) (by omega) v2
 have w1:IntKind.i64.wrap ((1:Int)+(L:Int))=((L+1:Nat):Int):=by rw[BD] <;>omega
 have w2:IntKind.i64.wrap ((1:Int)+(m:Int))=1+(m:Int):=by rw[BD] <;>omega
 rw[f112,e1]
 rcases (show k=0∨k=1∨k=2∨k=3∨k=4∨k=5∨k=6 by omega) with rfl | rfl | rfl | rfl | rfl | rfl | rfl
 ·simp only[AJ,beq_self_eq_true,AV,e2]
  exact ⟨.scale x,a2,s2,trivial,by omega,rfl⟩
 ·simp only[AJ,show ((1:Int)==0)=false from rfl,show ((1:Int)==4)=false from rfl,show ((1:Int)==1)=true from rfl,AV,Af,e3]
  exact ⟨.filt _ _ _ _ _,a3,s3,trivial,by omega,rfl⟩
 ·simp only[AJ,show ((2:Int)==0)=false from rfl,show ((2:Int)==4)=false from rfl,show ((2:Int)==1)=false from rfl,show ((2:Int)==2)=true from rfl,AV,Af,g1,w1,g2,g3]
  exact ⟨.echo (L+1) u v,b3,t3,⟨by omega,by omega⟩,by omega,rfl⟩
 ·simp only[AJ,show ((3:Int)==0)=false from rfl,show ((3:Int)==4)=false from rfl,show ((3:Int)==1)=false from rfl,show ((3:Int)==2)=false from rfl,show ((3:Int)==3)=true from rfl,AV,Af,e4]
  exact ⟨.squeeze p q r s,a4,s4,trivial,by omega,rfl⟩
 ·simp only[AJ,show ((4:Int)==0)=false from rfl,show ((4:Int)==4)=true from rfl,AV,Af,e2]
  exact ⟨.clip x,a2,s2,hx,by omega,rfl⟩
 ·simp only[AJ,show ((5:Int)==0)=false from rfl,show ((5:Int)==4)=false from rfl,show ((5:Int)==1)=false from rfl,show ((5:Int)==2)=false from rfl,show ((5:Int)==3)=false from rfl,show ((5:Int)==6)=false from rfl,Af]
  exact ⟨.bend,a1,s1,trivial,by omega,rfl⟩
 ·simp only[AJ,show ((6:Int)==0)=false from rfl,show ((6:Int)==4)=false from rfl,show ((6:Int)==1)=false from rfl,show ((6:Int)==2)=false from rfl,show ((6:Int)==3)=false from rfl,show ((6:Int)==6)=true from rfl,AV,Af,g1,d2,w2,d3]
  exact ⟨.lim L (ev m) w,c3,v3,⟨by omega,E7 _ _,ct m (by omega)⟩,by omega,rfl⟩
def CL (es:List Ef):List BM:=es.map (·.eff)
def row (ls:List (List Nat)) (i:Nat):List Nat:=ls.getD i []
section
variable {ls:List (List Nat)} {i:Nat} (h:i<ls.length)
include h
theorem Rx:(ls.map NU)[i]?=some (NU (row ls i)):=by simp[row,List.getD,h]
theorem nP:AI [.lst] (ls.map NU) i=true:=by simp[AI,Rx h,MY,NU]
theorem nR:GZ (ls.map NU) i=(row ls i).length:=by unfold GZ;rw[Rx h];rfl
theorem lR:HD (ls.map NU) i=AL .f32 (row ls i):=by unfold HD;rw[Rx h];rfl
theorem Um:ls.drop i=row ls i::ls.drop (i+1):=by
 rw[drop_eq_getElem_cons h]
 simp[row,List.getD,h]
end
theorem OI (P:List (List Nat)) (r:List Nat):P.map NU++AF (reps 1 [(T.lst 0 [])]) 0 [T.lst r.length (AL .f32 r)]=(P++[r]).map NU:=by
 rw[map_append];rfl
theorem ce {ls:List (List Nat)} {i j:Nat} {r:List Nat} (hj:j<ls.length):row (ls.set i r) j=if i=j then r else row ls j:=by
 unfold row
 by_cases h:i=j
 ·subst h;simp[List.getD,hj]
 ·simp[List.getD,h,List.getElem?_set_ne]
def Ef.keep:Ef→Nat
 | .scale _=>0
 | .filt .. =>2
 | .echo L _ _=>L
 | .squeeze .. =>1
 | .clip _=>0
 | .bend=>0
 | .lim A _ _=>A+1
def D5 (es:List Ef) (i:Nat):Ef:=es.getD i .bend
theorem N0 {es:List Ef} {i:Nat} (h:i<es.length):Cg (CL es) i=(D5 es i).eff:=by simp[Cg,CL,D5,List.getD,h]
theorem N4 {es:List Ef} {i:Nat} (h:i<es.length):es.drop i=D5 es i::es.drop (i+1):=by
 rw[drop_eq_getElem_cons h]
 simp[D5,List.getD,h]
theorem MU {es:List Ef} {i:Nat} (h:i<es.length):D5 es i∈es:=by
 have:D5 es i=es[i]:=by simp[D5,List.getD,h]
 rw[this];exact List.getElem_mem h
theorem CU (es:List Ef):(CL es).length=es.length:=by simp[CL]
theorem aF (n:Nat) {e:Ef} (h:e.Ok):∃ c:Int,f105 (n+1) e.eff.kind e.eff.len=some (c,((e.keep:Nat):Int)):=by
 rw[f105]
 cases e with
 | scale g=>exact ⟨_,rfl⟩
 | filt _ _ _ _ _=>exact ⟨_,rfl⟩
 | echo L p q=>exact ⟨_,rfl⟩
 | squeeze _ _ _ _=>exact ⟨_,rfl⟩
 | clip g=>exact ⟨_,rfl⟩
 | bend=>exact ⟨_,rfl⟩
 | lim A k r =>
   have hA:A≤32:=h.1
   have w:IntKind.i64.wrap ((1:Int)+(A:Int))=((A+1:Nat):Int):=by rw[BD] <;>omega
   refine ⟨2,?_⟩
   have e:(Ef.lim A k r).eff.len=(A:Int):=rfl
   rw[e,w]
   rfl
theorem Ue {k:FloatKind} {L:List Nat} {i v:Nat}:AF (AL k L) i [T.flt k v]=AL k (L.set i v):=by
 rw[Fm];simp[AL,List.map_set]
def newRow:Ef→List Nat
 | .lim A k r=>(List.replicate (Ef.lim A k r).keep 0).set 0 1065353216
 | e=>List.replicate e.keep 0
theorem Mr (e:Ef):((e.eff.kind==6)=false∧newRow e=List.replicate e.keep 0)∨((e.eff.kind==6)=true∧newRow e=(List.replicate e.keep 0).set 0 1065353216∧1≤e.keep):=by
 cases e with
 | lim A k r=>exact .inr ⟨rfl,rfl,by show 1≤A+1;omega⟩
 | scale g=>exact .inl ⟨rfl,rfl⟩
 | filt _ _ _ _ _=>exact .inl ⟨rfl,rfl⟩
 | echo L p q=>exact .inl ⟨rfl,rfl⟩
 | squeeze _ _ _ _=>exact .inl ⟨rfl,rfl⟩
 | clip g=>exact .inl ⟨rfl,rfl⟩
 | bend=>exact .inl ⟨rfl,rfl⟩
theorem Hd (e:Ef):(newRow e).length=e.keep:=by
 rcases Mr e with ⟨-,h⟩ | ⟨-,h,-⟩ <;>rw[h] <;>simp
theorem cH {e:Ef} (h:e.Ok):e.keep≤33:=by
 cases e with
 | lim A k r=>have hA:A≤32:=h.1;show A+1≤33;omega
 | echo L p q=>have h2:L≤32:=h.2;show L≤33;omega
 | scale g=>show 0≤33;omega
 | filt _ _ _ _ _=>show 2≤33;omega
 | squeeze _ _ _ _=>show 1≤33;omega
 | clip g=>show 0≤33;omega
 | bend=>show 0≤33;omega
theorem Vs (n:Nat) (es:List Ef) (hl:es.length≤100) (hok:∀ e∈es,e.Ok):∀ (j i m:Nat) (P:List (List Nat)),i+j=es.length→P.length≤i→j<m →
  f67.l0 (n+1) m es.length (AH (CL es)) P.length (P.map NU) (i:Int)=some ((P++(es.drop i).map newRow).length,(P++(es.drop i).map newRow).map NU):=by
 intro j
 induction j with
 | zero =>
   intro i m P hi hP hm
   obtain ⟨m,rfl⟩:=zc m (by omega)
   rw[f67.l0,A8 (by omega),drop_eq_nil_of_le (by omega)]
   simp[br]
 | succ j ih =>
   intro i m P hi hP hm
   obtain ⟨m,rfl⟩:=zc m (by omega)
   have h:i<es.length:=by omega
   have he:i<(CL es).length:=by rw[CU];exact h
   have hE:=hok _ (MU h)
   have hd:=N4 h
   have hk5:=cH hE
   rw[f67.l0,Bf h,A1 h,zT,U5 he,kE he,gE he,N0 h,hd]
   generalize D5 es i=e at hE hk5
   obtain ⟨c,hc⟩:=aF n hE
   have step:=ih (i+1) m (P++[newRow e]) (by omega) (by simp;omega) (by omega)
   have hg:decide ((0:Int)≤((e.keep:Nat):Int)∧((e.keep:Nat):Int)≤(2147483648:Int))=true:=decide_eq_true (by omega)
   have hpush:=OI P (newRow e)
   rw[Hd] at hpush
   rcases Mr e with ⟨h6,hr⟩ | ⟨h6,hr,hk⟩
   ·rw[hr] at hpush
    simp only[AV,Af,zA,Ay,hc,AJ,hg,zT,L2,h6,An (show P.length<2147483648 by omega),AZ (show i<9223372036854775807 by omega)]
    rw[hpush,← hr,A6 (z:=newRow e),step]
    simp
   ·have hg2:decide ((0:Int)≤0∧(0:Int)<((e.keep:Nat):Int))=true:=decide_eq_true (by omega)
    have hb:Nat.ble 1 (AL .f32 (List.replicate e.keep 0)).length=true:=by rw[Nat.ble_eq];simp[AL];omega
    rw[hr] at hpush
    simp only[AV,Af,zA,Ay,hc,AJ,hg,zT,L2,h6,hg2,hb,Ue,An (show P.length<2147483648 by omega),AZ (show i<9223372036854775807 by omega)]
    rw[hpush,← hr,A6 (z:=newRow e),step]
    simp
def gQ (es:List Ef) (ls:List (List Nat)):Prop:=ls.length=es.length∧∀ i,i<ls.length→(row ls i).length=(D5 es i).keep∧(∀ y∈row ls i,BX y)
theorem gQ.set {es:List Ef} {ls:List (List Nat)} (h:gQ es ls) {i:Nat} {r:List Nat} (hi:i<ls.length) (hr:r.length=(D5 es i).keep) (hw:∀ y∈r,BX y):gQ es (ls.set i r):=by
 refine ⟨by rw[length_set];exact h.1,fun j hj => ?_⟩
 rw[length_set] at hj
 rw[ce hj]
 by_cases e:i=j
 ·subst e;rw[if_pos rfl];exact ⟨hr,hw⟩
 ·rw[if_neg e];exact h.2 j hj
theorem Sy (es:List Ef):gQ es (es.map newRow):=by
 refine ⟨by simp,fun i hi => ?_⟩
 have h:i<es.length:=by simpa using hi
 have e:row (es.map newRow) i=newRow (D5 es i):=by simp[row,D5,List.getD,h]
 rw[e]
 refine ⟨Hd _,fun y hy => ?_⟩
 rcases Mr (D5 es i) with ⟨-,hr⟩ | ⟨-,hr,-⟩
 ·rw[hr] at hy
  obtain ⟨-,rfl⟩:=mem_replicate.1 hy
  exact BZ
 ·rw[hr] at hy
  rcases mem_or_eq_of_mem_set hy with h' | rfl
  ·obtain ⟨-,rfl⟩:=mem_replicate.1 h'
   exact BZ
  ·exact Ww
theorem O2 (n:Nat) (a b:Int) (c:Nat) (l:List T) (lo hi k:Int) (h:lo≤b∧b≤hi) (hk:(c:Int)=k):f144 (n+2) a b c l lo hi k=some true:=by
 rw[f144,V1,decide_eq_true h]
 simp only[AJ,AV,hk,beq_self_eq_true]
theorem dD (n:Nat) {l:Nat} (h:(CO l&&F4 .f32 l 0)=true):f145 (n+2) l=some true:=by rw[Mi,h]
theorem Ql (n:Nat) {e:Ef} (h:e.Ok):f115 (n+4) e.eff.kind e.eff.len e.eff.nums.length (AL .f32 e.eff.nums)=some true:=by
 rw[f115]
 cases e with
 | scale g =>
   have:=O2 (n+1) 0 0 1 (AL .f32 [g]) 0 0 1 (by omega) (by omega)
   simp only[Ef.eff,beq_self_eq_true,AV,length_cons,length_nil,Nat.zero_add,this,AJ]
 | filt a b c d f =>
   have:=O2 (n+1) 1 0 5 (AL .f32 [a,b,c,d,f]) 0 0 5 (by omega) (by omega)
   simp only[Ef.eff,show ((1:Int)==0)=false from rfl,show ((1:Int)==4)=false from rfl,beq_self_eq_true,AV,Af,length_cons,length_nil,Nat.zero_add,Nat.reduceAdd,this,AJ]
 | echo L p q =>
   have hL:1≤L∧L≤32:=h
   have:=O2 (n+1) 2 (L:Int) 2 (AL .f32 [p,q]) 1 32 2 (by omega) (by omega)
   simp only[Ef.eff,show ((2:Int)==0)=false from rfl,show ((2:Int)==4)=false from rfl,show ((2:Int)==1)=false from rfl,beq_self_eq_true,AV,Af,length_cons,length_nil,Nat.zero_add,Nat.reduceAdd,this,AJ]
 | squeeze a b c d =>
   have:=O2 (n+1) 3 0 4 (AL .f32 [a,b,c,d]) 0 0 4 (by omega) (by omega)
   simp only[Ef.eff,show ((3:Int)==0)=false from rfl,show ((3:Int)==4)=false from rfl,show ((3:Int)==1)=false from rfl,show ((3:Int)==2)=false from rfl,beq_self_eq_true,AV,Af,length_cons,length_nil,Nat.zero_add,Nat.reduceAdd,this,AJ]
 | clip g =>
   have:=O2 (n+1) 4 0 1 (AL .f32 [g]) 0 0 1 (by omega) (by omega)
   simp only[Ef.eff,show ((4:Int)==0)=false from rfl,beq_self_eq_true,AV,Af,length_cons,length_nil,Nat.zero_add,this,AJ]
 | bend =>
   have:=O2 (n+1) 5 0 0 (AL .f32 []) 0 0 0 (by omega) (by omega)
   simp only[Ef.eff,show ((5:Int)==0)=false from rfl,show ((5:Int)==4)=false from rfl,show ((5:Int)==1)=false from rfl,show ((5:Int)==2)=false from rfl,show ((5:Int)==3)=false from rfl,beq_self_eq_true,AV,Af,length_nil,this,AJ]
 | lim A k r =>
   have hA:A≤32∧BX k∧_:=h
   have:=O2 (n+1) 6 (A:Int) 2 (AL .f32 [k,r]) 0 32 2 (by omega) (by omega)
   have g1:decide ((0:Int)≤0∧(0:Int)<((2:Nat):Int))=true:=rfl
   have g2:AI [.flt .f32] (AL .f32 [k,r]) 0=true:=rfl
   have g3:BR (AL .f32 [k,r]) 0=k:=rfl
   simp only[Ef.eff,show ((6:Int)==0)=false from rfl,show ((6:Int)==4)=false from rfl,show ((6:Int)==1)=false from rfl,show ((6:Int)==2)=false from rfl,show ((6:Int)==3)=false from rfl,show ((6:Int)==5)=false from rfl,beq_self_eq_true,AV,Af,length_cons,length_nil,Nat.zero_add,Nat.reduceAdd,this,AJ,g1,g2,g3,zA,Ay,dD (n+1) hA.2.2]
def Fy (x:Nat):Nat:=if Ly .f32 x 1065353216=true then 1065353216 else if VQ .f32 x 3212836864=true then 3212836864 else AM .f32 x (BW .f32 1069547520 (AM .f32 1056964608 (AM .f32 x x)))
theorem dk (n x:Nat):f136 (n+1) x=some (Fy x):=by
 rw[f136]
 unfold Fy
 cases Ly .f32 x 1065353216
 ·cases VQ .f32 x 3212836864 <;>rfl
 ·rfl
theorem Sn (n:Nat) (N:Nat) (cs:List T):∀ (zs p acc:List Nat) (m:Nat),acc.length+zs.length<1048576→p.length+zs.length<1048576→zs.length<m →
  f108.l1 (n+1) m N cs acc.length (AL .f32 acc) (p++zs).length (AL .f32 (p++zs)) ((p++zs).length:Int) (p.length:Int)=some ((acc++zs.map Fy).length,AL .f32 (acc++zs.map Fy)):=by
 intro zs
 induction zs with
 | nil =>
   intro p acc m _ _ hm
   obtain ⟨m,rfl⟩:=zc m (by simp at hm;omega)
   rw[f108.l1,DD];simp[br]
 | cons z zs ih =>
   intro p acc m ha hp hm
   obtain ⟨m,rfl⟩:=zc m (by simp at hm;omega)
   have:=ih (p++[z]) (acc++[Fy z]) m (by simp at ha ⊢;omega) (by simp at hp ⊢;omega) (by simp at hm;omega)
   rw[f108.l1,DB,Cu,BS,Ba,CD,Bt (z:=z) (show p.length<4611686018427387904 by simp at hp;omega)]
   simp only[AV,Ay,zA,dk,AJ,An (show acc.length<2147483648 by simp at ha;omega),B4]
   simpa using this
def Bs (p q:Nat) (w:List Nat) (x:Nat):Nat × List Nat:=(Au .f32 x (AM .f32 q (XB w)),NN w (Hb (Au .f32 x (AM .f32 p (XB w)))))
theorem U9 (n:Nat) (N:Nat) (cs:List T) (pp qq:Nat):∀ (zs p acc w:List Nat) (m:Nat),0<w.length→w.length≤64→acc.length+zs.length<1048576→p.length+zs.length<1048576→zs.length<m →
  f108.l0 (n+3) m N cs 2 (AL .f32 [pp,qq]) w.length (AL .f32 w) acc.length (AL .f32 acc) (p++zs).length (AL .f32 (p++zs)) ((p++zs).length:Int) (p.length:Int) =
   some ((AR (Bs pp qq) w zs).2.length,AL .f32 (AR (Bs pp qq) w zs).2,(acc++(AR (Bs pp qq) w zs).1).length,AL .f32 (acc++(AR (Bs pp qq) w zs).1)):=by
 intro zs
 induction zs with
 | nil =>
   intro p acc w m _ _ _ _ hm
   obtain ⟨m,rfl⟩:=zc m (by simp at hm;omega)
   rw[f108.l0,DD];simp[br,AR]
 | cons z zs ih =>
   intro p acc w m h0 h1 ha hp hm
   obtain ⟨m,rfl⟩:=zc m (by simp at hm;omega)
   have hlen:(Bs pp qq w z).2.length=w.length:=I9 h0
   have step:=ih (p++[z]) (acc++[(Bs pp qq w z).1]) (Bs pp qq w z).2 m (by omega) (by omega) (by simp at ha ⊢;omega) (by simp at hp ⊢;omega) (by simp at hm;omega)
   have g1:decide ((0:Int)≤0∧(0:Int)<(w.length:Int))=true:=decide_eq_true (by omega)
   have g2:AI [.flt .f32] (AL .f32 w) 0=true:=BH h0
   have g3:BR (AL .f32 w) 0=XB w:=Cy ..
   have g4:decide ((0:Int)≤1∧(1:Int)<((2:Nat):Int))=true:=rfl
   have g5:decide ((0:Int)≤0∧(0:Int)<((2:Nat):Int))=true:=rfl
   have g6:AI [.flt .f32] (AL .f32 [pp,qq]) 0=true:=rfl
   have g7:AI [.flt .f32] (AL .f32 [pp,qq]) 1=true:=rfl
   have g8:BR (AL .f32 [pp,qq]) 0=pp:=rfl
   have g9:BR (AL .f32 [pp,qq]) 1=qq:=rfl
   have tk:∀ y,f132 (n+3) w.length (AL .f32 w) y=some ((NN w y).length,AL .f32 (NN w y)):=fun y=>by
    obtain ⟨v,vs,rfl⟩:∃ v vs,w=v::vs:=by cases w with
     | nil=>simp at h0
     | cons v vs=>exact ⟨v,vs,rfl⟩
    exact dJ (n+1) v vs y (by simp at h1;omega)
   rw[f108.l0,DB,Cu,BS,Ba,CD]
   have w' :=Bt (z:=z) (p:=p) (show p.length<4611686018427387904 by simp at hp;omega)
   simp only[AV,Ay,zA,g1,g2,g3,g4,g5,g6,g7,g8,g9,An (show acc.length<2147483648 by simp at ha;omega),B4,Sa (n+1) (BV _ _),AJ,tk,w']
   rw[A6 (z:=(Bs pp qq w z).1)]
   rw[append_assoc,append_assoc] at step
   exact step
section
variable {σ τ α β:Type}
theorem MQ (f:σ→α→β × σ) (g:τ→α→β × τ) (h:τ→σ) (P:τ→Prop) (hs:∀ t x,P t→f (h t) x=((g t x).1,h (g t x).2)∧P (g t x).2):∀ (xs:List α) (t:τ),P t→AR f (h t) xs=((AR g t xs).1,h (AR g t xs).2)∧P (AR g t xs).2
 | [],t,ht=>⟨rfl,ht⟩
 | x::xs,t,ht=>by
   obtain ⟨e,hp⟩:=hs t x ht
   obtain ⟨e2,hp2⟩:=MQ f g h P hs xs _ hp
   refine ⟨?_,hp2⟩
   simp only[AR,e,e2]
theorem FN (f:α→β):∀ (xs:List α),AR (fun (_:List τ) x=>(f x,([]:List τ))) [] xs=(xs.map f,[])
 | []=>rfl
 | x::xs=>by simp only[AR,FN f xs,map_cons]
theorem RA (f:σ→α × α→β × σ):∀ (xs:List α) (s:σ),AR f s (xs.zip xs)=AR (fun s x=>f s (x,x)) s xs
 | [],s=>rfl
 | x::xs,s=>by simp only[List.zip_cons_cons,AR,RA f xs]
end
def Ef.step:Ef→List Nat→Nat→Nat × List Nat
 | .scale g,_,x=>(AM .f32 x g,[])
 | .filt a b c d e,w,x=>((BK (a,b,c,d,e) 1 true (w.getD 0 0,w.getD 1 0,0,0) x).1,[(BK (a,b,c,d,e) 1 true (w.getD 0 0,w.getD 1 0,0,0) x).2.1,(BK (a,b,c,d,e) 1 true (w.getD 0 0,w.getD 1 0,0,0) x).2.2.1])
 | .echo L p q,w,x=>Bs p q w x
 | .squeeze a r t q,w,x=>((Bb a r t q (w.getD 0 0) (x,x)).1,[(Bb a r t q (w.getD 0 0) (x,x)).2])
 | .clip g,_,x=>(D3 g x,[])
 | .bend,_,x=>(Fy x,[])
 | .lim A k r,w,x=>((AT k r (w.getD 0 0,w.drop 1) x).1,(AT k r (w.getD 0 0,w.drop 1) x).2.1::(AT k r (w.getD 0 0,w.drop 1) x).2.2)
def bF (e:Ef) (w:List Nat):Prop:=w.length=e.keep∧EO w
theorem aw {x:Nat}:BX (Fy x):=by
 unfold Fy
 split
 ·exact ⟨by decide,by decide⟩
 ·split
  ·exact ⟨by decide,by decide⟩
  ·exact G8 _ _
theorem I7 {w:List Nat} (h:EO w) (i:Nat):BX (w.getD i 0):=by
 unfold List.getD
 cases hi:w[i]? with
 | none=>exact BZ
 | some v=>exact h v (List.mem_of_getElem? hi)
theorem Zs {e:Ef} (he:e.Ok) {w:List Nat} (h:bF e w) {x:Nat} (hx:BX x):BX (e.step w x).1∧bF e (e.step w x).2:=by
 obtain ⟨hl,hw⟩:=h
 cases e with
 | scale g=>exact ⟨G8 _ _,rfl,fun y hy=>by cases hy⟩
 | filt a b c d e =>
   obtain ⟨q1,q2,q3,q4,q5⟩:=Mw (f:=(a,b,c,d,e)) (form:=1) (b:=true) (m:=(w.getD 0 0,w.getD 1 0,0,0)) (x:=x) ⟨I7 hw 0,I7 hw 1,BZ,BZ⟩ hx
   refine ⟨q1,rfl,fun y hy => ?_⟩
   simp only[Ef.step,mem_cons,not_mem_nil,or_false] at hy
   rcases hy with rfl | rfl
   ·exact q2
   ·exact q3
 | echo L p q =>
   have h1:1≤L∧L≤32:=he
   have hl:w.length=L:=hl
   exact ⟨BV _ _,(I9 (by omega)).trans hl,YQ hw (Mg (BV _ _))⟩
 | squeeze a r t q =>
   refine ⟨G8 _ _,rfl,fun y hy => ?_⟩
   simp only[Ef.step,mem_cons,not_mem_nil,or_false] at hy
   subst hy;exact YP ..
 | clip g=>exact ⟨TM he hx,rfl,fun y hy=>by cases hy⟩
 | bend=>exact ⟨aw,rfl,fun y hy=>by cases hy⟩
 | lim A k r =>
   have hl:w.length=A+1:=hl
   refine ⟨TM he.2.1 (G8 _ _),?_,fun y hy => ?_⟩
   ·show (AT k r (w.getD 0 0,w.drop 1) x).2.2.length+1=A+1
    simp[AT];omega
   ·simp only[Ef.step,mem_cons] at hy
    rcases hy with rfl | hy
    ·exact OM P4 (BV _ _)
    ·have:=mem_of_mem_drop hy
     simp only[mem_append,mem_singleton] at this
     rcases this with h | rfl
     ·exact hw y (mem_of_mem_drop h)
     ·exact hx
theorem Jy {e:Ef} (he:e.Ok) (xs:List Nat) {w:List Nat} (h:bF e w) (hx:EO xs):EO (AR e.step w xs).1∧bF e (AR e.step w xs).2 :=
 T5 (f:=e.step) (P:=bF e) (Q:=BX) (S:=BX) (fun _ _ hs hq=>Zs he hs hq) xs w h hx
theorem UQ (a b c d e:Nat) (xs w:List Nat) (hl:w.length=2):∃ u v,(AR (Ef.filt a b c d e).step w xs).2=[u,v]∧AR (BK (a,b,c,d,e) 1 true) (w.getD 0 0,w.getD 1 0,0,0) xs=((AR (Ef.filt a b c d e).step w xs).1,(u,v,0,0)):=by
 obtain ⟨h1,h2⟩:=MQ (BK (a,b,c,d,e) 1 true) (Ef.filt a b c d e).step (fun w=>(w.getD 0 0,w.getD 1 0,0,0)) (fun w=>w.length=2) (fun t x ht=>⟨by
  have z:fl? true 0=0:=by decide
  simp only[BK,Ef.step,List.getD_cons_zero,List.getD_cons_succ,z,if_neg (show ¬ (1:Int)=0 by decide),if_pos],rfl⟩) xs w hl
 generalize (AR (Ef.filt a b c d e).step w xs)=r at h1 h2
 obtain ⟨ys,r⟩:=r
 match r,h2 with
 | [u,v],_=>exact ⟨u,v,rfl,h1⟩
theorem NL (a r t q:Nat) (xs w:List Nat) (hl:w.length=1):∃ u,(AR (Ef.squeeze a r t q).step w xs).2=[u]∧AR (Bb a r t q) (w.getD 0 0) (xs.zip xs)=((AR (Ef.squeeze a r t q).step w xs).1,u):=by
 rw[RA]
 obtain ⟨h1,h2⟩:=MQ (fun s x=>Bb a r t q s (x,x)) (Ef.squeeze a r t q).step (fun w=>w.getD 0 0) (fun w=>w.length=1) (fun t x ht=>⟨rfl,rfl⟩) xs w hl
 generalize (AR (Ef.squeeze a r t q).step w xs)=s at h1 h2
 obtain ⟨ys,s⟩:=s
 match s,h2 with
 | [u],_=>exact ⟨u,rfl,h1⟩
theorem W8 (A k r:Nat) (xs w:List Nat) (hl:w.length=A+1):∃ g v,(AR (Ef.lim A k r).step w xs).2=g::v∧AR (AT k r) (w.getD 0 0,w.drop 1) xs=((AR (Ef.lim A k r).step w xs).1,(g,v)):=by
 obtain ⟨h1,h2⟩:=MQ (AT k r) (Ef.lim A k r).step (fun w=>(w.getD 0 0,w.drop 1)) (fun w=>0<w.length) (fun t x ht=>⟨rfl,by simp[Ef.step]⟩) xs w (by omega)
 generalize (AR (Ef.lim A k r).step w xs)=s at h1 h2
 obtain ⟨ys,s⟩:=s
 match s,h2 with
 | g::v,_=>exact ⟨g,v,rfl,h1⟩
def A0:List Ef→List (List Nat)→List Nat→List Nat × List (List Nat)
 | e::es,w::ls,xs=>((A0 es ls (AR e.step w xs).1).1,(AR e.step w xs).2::(A0 es ls (AR e.step w xs).1).2)
 | _,_,xs=>(xs,[])
def Np:List Ef→List (List Nat)→Prop
 | e::es,w::ls=>bF e w∧Np es ls
 | [],[]=>True
 | _,_=>False
theorem Np.len:∀ {es:List Ef} {ls:List (List Nat)},Np es ls→ls.length=es.length
 | [],[],_=>rfl
 | _::_,_::_,h=>by simp[h.2.len]
 | [],_::_,h=>h.elim
 | _::_,[],h=>h.elim
theorem Np.at:∀ {es:List Ef} {ls:List (List Nat)},Np es ls→∀ i,i<es.length→bF (D5 es i) (row ls i)
 | [],[],_,i,hi=>by simp at hi
 | _::_,_::_,h,0,_=>h.1
 | _::_,_::_,h,i+1,hi=>h.2.at i (by simpa using hi)
 | [],_::_,h,_,_=>h.elim
 | _::_,[],h,_,_=>h.elim
theorem gQ.fits:∀ {es:List Ef} {ls:List (List Nat)},gQ es ls→Np es ls
 | [],[],_=>trivial
 | e::es,w::ls,h=>⟨h.2 0 (by simp),gQ.fits ⟨by have:=h.1;simpa using this,fun i hi=>h.2 (i+1) (by simpa using hi)⟩⟩
 | [],_::_,h=>by have:=h.1;simp at this
 | _::_,[],h=>by have:=h.1;simp at this
theorem RO:∀ (es:List Ef) (ls:List (List Nat)) (xs:List Nat),(∀ e∈es,e.Ok)→Np es ls→EO xs→EO (A0 es ls xs).1∧Np es (A0 es ls xs).2∧(A0 es ls xs).1.length=xs.length
 | [],[],xs,_,_,hx=>⟨hx,trivial,rfl⟩
 | e::es,w::ls,xs,ho,h,hx=>by
   obtain ⟨a,b⟩:=Jy (ho e (by simp)) xs h.1 hx
   obtain ⟨c,d,f⟩:=RO es ls _ (fun e he=>ho e (by simp[he])) h.2 a
   exact ⟨c,⟨b,d⟩,f.trans (HF _ _ _)⟩
 | [],_::_,_,_,h,_=>h.elim
 | _::_,[],_,_,h,_=>h.elim
theorem Po {w:List Nat}:((AL .f32 w).drop 1).take (w.length - 1)=AL .f32 (w.drop 1):=by
 rw[MI,I3,take_of_length_le (by simp)]
theorem UY (n:Nat) {e:Ef} (he:e.Ok) {w xs:List Nat} (hf:bF e w) (hx:EO xs) (hl:xs.length≤256) (hn:600<n) :
  f108 (n+102) e.eff.kind e.eff.len e.eff.nums.length (AL .f32 e.eff.nums) w.length (AL .f32 w) xs.length (AL .f32 xs) =
   some ((AR e.step w xs).1.length,AL .f32 (AR e.step w xs).1,(AR e.step w xs).2.length,AL .f32 (AR e.step w xs).2):=by
 obtain ⟨hwl,hww⟩:=hf
 rw[f108]
 cases e with
 | scale g =>
   obtain rfl:w=[]:=length_eq_zero_iff.1 hwl
   have e1:=YZ (n+100) xs g (by omega) (by omega)
   have e1:f130 (n+101) xs.length (AL .f32 xs) g=_:=e1
   have g1:decide ((0:Int)≤0∧(0:Int)<(([g].length:Nat):Int))=true:=rfl
   have g2:AI [.flt .f32] (AL .f32 [g]) 0=true:=rfl
   have g3:BR (AL .f32 [g]) 0=g:=rfl
   have hs:AR (Ef.scale g).step [] xs=(xs.map fun z=>AM .f32 z g,[]):=FN (fun z=>AM .f32 z g) xs
   simp only[Ef.eff,beq_self_eq_true,AV,g1,g2,g3,zA,Ay,e1,AJ,hs]
   rfl
 | filt a b c d f =>
   have hw2:w.length=2:=hwl
   obtain ⟨u,v,hs2,hs⟩:=UQ a b c d f xs w hw2
   have e1:=gD (n+96) (a,b,c,d,f) 1 true (w.getD 0 0,w.getD 1 0,0,0) xs hx ⟨I7 hww 0,I7 hww 1,BZ,BZ⟩ (by omega) (by omega)
   rw[hs] at e1
   have e1:f131 (n+101) a b c d f 1 true (w.getD 0 0) (w.getD 1 0) 0 0 xs.length (AL .f32 xs)=_:=e1
   have g (i:Nat) (hi:i<5):AI [.flt .f32] (AL .f32 [a,b,c,d,f]) i=true:=BH (by simpa using hi)
   have k0:BR (AL .f32 [a,b,c,d,f]) 0=a:=rfl
   have k1:BR (AL .f32 [a,b,c,d,f]) 1=b:=rfl
   have k2:BR (AL .f32 [a,b,c,d,f]) 2=c:=rfl
   have k3:BR (AL .f32 [a,b,c,d,f]) 3=d:=rfl
   have k4:BR (AL .f32 [a,b,c,d,f]) 4=f:=rfl
   have d0:decide ((0:Int)≤0∧(0:Int)<(([a,b,c,d,f].length:Nat):Int))=true:=rfl
   have d1:decide ((0:Int)≤1∧(1:Int)<(([a,b,c,d,f].length:Nat):Int))=true:=rfl
   have d2:decide ((0:Int)≤2∧(2:Int)<(([a,b,c,d,f].length:Nat):Int))=true:=rfl
   have d3:decide ((0:Int)≤3∧(3:Int)<(([a,b,c,d,f].length:Nat):Int))=true:=rfl
   have d4:decide ((0:Int)≤4∧(4:Int)<(([a,b,c,d,f].length:Nat):Int))=true:=rfl
   have w0:AI [.flt .f32] (AL .f32 w) 0=true:=BH (by omega)
   have w1:AI [.flt .f32] (AL .f32 w) 1=true:=BH (by omega)
   have q0:decide ((0:Int)≤0∧(0:Int)<(w.length:Int))=true:=decide_eq_true (by omega)
   have q1:decide ((0:Int)≤1∧(1:Int)<(w.length:Int))=true:=decide_eq_true (by omega)
   simp only[Ef.eff,show ((1:Int)==0)=false from rfl,beq_self_eq_true,AV,Af,g 0 (by decide),g 1 (by decide),g 2 (by decide),g 3 (by decide),g 4 (by decide),k0,k1,k2,k3,k4,d0,d1,d2,d3,d4,w0,w1,q0,q1,Cy,zA,Ay,e1,AJ,hs2]
   rfl
 | echo L p q =>
   have hL:1≤L∧L≤32:=he
   have hwL:w.length=L:=hwl
   have e0:=JG (n+100) w (by omega)
   have e0:f79 (n+101) w.length (AL .f32 w)=_:=e0
   have e1:=U9 (n+98) xs.length (AL .f32 xs) p q xs [] [] w (n+101) (by omega) (by omega) (by simp;omega) (by simp;omega) (by omega)
   have e1:f108.l0 (n+101) (n+101) xs.length (AL .f32 xs) [p,q].length (AL .f32 [p,q]) w.length (AL .f32 w) 0 [] xs.length (AL .f32 xs) (xs.length:Int) 0=_:=e1
   simp only[Ef.eff,show ((2:Int)==0)=false from rfl,show ((2:Int)==1)=false from rfl,beq_self_eq_true,AV,Af,e0,AJ,e1]
   rfl
 | squeeze a r t q =>
   have hw1:w.length=1:=hwl
   obtain ⟨u,hs2,hs⟩:=NL a r t q xs w hw1
   have e1:=R1 (n+96) a r (w.getD 0 0) t q xs hx hl (by omega)
   rw[hs] at e1
   have e1:f134 (n+101) a r (w.getD 0 0) t q xs.length (AL .f32 xs)=_:=e1
   have g (i:Nat) (hi:i<4):AI [.flt .f32] (AL .f32 [a,r,t,q]) i=true:=BH (by simpa using hi)
   have k0:BR (AL .f32 [a,r,t,q]) 0=a:=rfl
   have k1:BR (AL .f32 [a,r,t,q]) 1=r:=rfl
   have k2:BR (AL .f32 [a,r,t,q]) 2=t:=rfl
   have k3:BR (AL .f32 [a,r,t,q]) 3=q:=rfl
   have d0:decide ((0:Int)≤0∧(0:Int)<(([a,r,t,q].length:Nat):Int))=true:=rfl
   have d1:decide ((0:Int)≤1∧(1:Int)<(([a,r,t,q].length:Nat):Int))=true:=rfl
   have d2:decide ((0:Int)≤2∧(2:Int)<(([a,r,t,q].length:Nat):Int))=true:=rfl
   have d3:decide ((0:Int)≤3∧(3:Int)<(([a,r,t,q].length:Nat):Int))=true:=rfl
   have w0:AI [.flt .f32] (AL .f32 w) 0=true:=BH (by omega)
   have q0:decide ((0:Int)≤0∧(0:Int)<(w.length:Int))=true:=decide_eq_true (by omega)
   simp only[Ef.eff,show ((3:Int)==0)=false from rfl,show ((3:Int)==1)=false from rfl,show ((3:Int)==2)=false from rfl,beq_self_eq_true,AV,Af,g 0 (by decide),g 1 (by decide),g 2 (by decide),g 3 (by decide),k0,k1,k2,k3,d0,d1,d2,d3,w0,q0,zA,Ay]
   rw[Cy]
   simp only[e1,AJ,hs2]
   rfl
 | clip g =>
   obtain rfl:w=[]:=length_eq_zero_iff.1 hwl
   have e1:=bg (n+97) g xs hx hl (by omega)
   have e1:f135 (n+101) xs.length (AL .f32 xs) g=_:=e1
   have g1:decide ((0:Int)≤0∧(0:Int)<(([g].length:Nat):Int))=true:=rfl
   have g2:AI [.flt .f32] (AL .f32 [g]) 0=true:=rfl
   have g3:BR (AL .f32 [g]) 0=g:=rfl
   have hs:AR (Ef.clip g).step [] xs=(xs.map (D3 g),[]):=FN (D3 g) xs
   simp only[Ef.eff,show ((4:Int)==0)=false from rfl,show ((4:Int)==1)=false from rfl,show ((4:Int)==2)=false from rfl,show ((4:Int)==3)=false from rfl,beq_self_eq_true,AV,Af,g1,g2,g3,zA,Ay,e1,AJ,hs,length_map]
   rfl
 | bend =>
   obtain rfl:w=[]:=length_eq_zero_iff.1 hwl
   have e1:=Sn (n+100) xs.length (AL .f32 xs) xs [] [] (n+101) (by simp;omega) (by simp;omega) (by omega)
   have e1:f108.l1 (n+101) (n+101) xs.length (AL .f32 xs) 0 [] xs.length (AL .f32 xs) (xs.length:Int) 0=_:=e1
   have hs:AR Ef.bend.step [] xs=(xs.map Fy,[]):=FN Fy xs
   simp only[Ef.eff,show ((5:Int)==0)=false from rfl,show ((5:Int)==1)=false from rfl,show ((5:Int)==2)=false from rfl,show ((5:Int)==3)=false from rfl,show ((5:Int)==4)=false from rfl,beq_self_eq_true,AV,Af,e1,AJ,hs]
   rfl
 | lim A k r =>
   have hA:A≤32∧BX k∧(CO k&&F4 .f32 k 0)=true:=he
   have hwA:w.length=A+1:=hwl
   obtain ⟨gg,v,hs2,hs⟩:=W8 A k r xs w hwA
   have hk:=hA.2.2
   have e1:=SH n k r (w.getD 0 0) (w.drop 1) xs hA.2.1 hk (I7 hww 0) (fun y hy=>hww y (mem_of_mem_drop hy)) (by simp;omega) hx hl (by omega)
   rw[hs,length_drop] at e1
   have hfit:=Jy (e:=.lim A k r) he xs ⟨hwl,hww⟩ hx
   have hv:v.length=A:=by
    have h1:(AR (Ef.lim A k r).step w xs).2.length=A+1:=hfit.2.1
    rw[hs2] at h1
    simpa using h1
   have g1:decide ((0:Int)≤0∧(0:Int)<(([k,r].length:Nat):Int))=true:=rfl
   have g2:AI [.flt .f32] (AL .f32 [k,r]) 0=true:=rfl
   have g3:BR (AL .f32 [k,r]) 0=k:=rfl
   have g4:decide ((0:Int)≤1∧(1:Int)<(([k,r].length:Nat):Int))=true:=rfl
   have g5:AI [.flt .f32] (AL .f32 [k,r]) 1=true:=rfl
   have g6:BR (AL .f32 [k,r]) 1=r:=rfl
   have w0:AI [.flt .f32] (AL .f32 w) 0=true:=BH (by omega)
   have q0:decide ((0:Int)≤0∧(0:Int)<(w.length:Int))=true:=decide_eq_true (by omega)
   have q1:decide ((0:Int)≤1∧(1:Int)≤(w.length:Int)∧(w.length:Int)≤(w.length:Int))=true:=decide_eq_true (by omega)
   have b1:Nat.ble (1+v.length) 2147483648=true:=by rw[Nat.ble_eq];omega
   simp only[Ef.eff,show ((6:Int)==0)=false from rfl,show ((6:Int)==1)=false from rfl,show ((6:Int)==2)=false from rfl,show ((6:Int)==3)=false from rfl,show ((6:Int)==4)=false from rfl,show ((6:Int)==5)=false from rfl,Af,g1,g2,g3,g4,g5,g6,w0,q0,q1,zA,Ay,Po]
   rw[Cy]
   simp only[e1,AJ,b1,Ay,hs2]
   rw[Nat.add_comm 1 v.length]
   rfl
theorem Sf (n:Nat) (hn:600<n) (N N2:Nat) (cs:List T) (es:List Ef) (hle:es.length≤100) (ho:∀ e∈es,e.Ok) (ls:List (List Nat)) (hf:Np es ls):∀ (j i m:Nat) (P:List (List Nat)) (xs:List Nat),i+j=es.length→P.length≤i→EO xs→xs.length≤256→j<m →
  f72.l0 (n+102) m N cs ls.length (ls.map NU) xs.length (AL .f32 xs) P.length (P.map NU) es.length (AH (CL es)) (es.length:Int) (i:Int) =
   some ((A0 (es.drop i) (ls.drop i) xs).1.length,AL .f32 (A0 (es.drop i) (ls.drop i) xs).1,(P++(A0 (es.drop i) (ls.drop i) xs).2).length,(P++(A0 (es.drop i) (ls.drop i) xs).2).map NU):=by
 have hlen:=hf.len
 intro j
 induction j with
 | zero =>
   intro i m P xs hi hP hx hl hm
   obtain ⟨m,rfl⟩:=zc m (by omega)
   rw[f72.l0,A8 (by omega),drop_eq_nil_of_le (show es.length≤i by omega),drop_eq_nil_of_le (show ls.length≤i by omega)]
   simp only[Af,A0,append_nil]
 | succ j ih =>
   intro i m P xs hi hP hx hl hm
   obtain ⟨m,rfl⟩:=zc m (by omega)
   have h:i<es.length:=by omega
   have he:i<(CL es).length:=by rw[CU];exact h
   have hil:i<ls.length:=by omega
   have hO:=ho _ (MU h)
   have hF:=hf.at i h
   have e1:=UY n hO hF hx hl hn
   obtain ⟨f1,f2⟩:=Jy hO xs hF hx
   have l1:(AR (D5 es i).step (row ls i) xs).1.length=xs.length:=HF _ _ _
   have step:=ih (i+1) m (P++[(AR (D5 es i).step (row ls i) xs).2]) (AR (D5 es i).step (row ls i) xs).1 (by omega) (by simp;omega) f1 (by omega) (by omega)
   have hd:A0 (es.drop i) (ls.drop i) xs=((A0 (es.drop (i+1)) (ls.drop (i+1)) (AR (D5 es i).step (row ls i) xs).1).1,(AR (D5 es i).step (row ls i) xs).2::(A0 (es.drop (i+1)) (ls.drop (i+1)) (AR (D5 es i).step (row ls i) xs).1).2):=by
    rw[N4 h,Um hil];rfl
   have hp:=OI P (AR (D5 es i).step (row ls i) xs).2
   rw[f72.l0,Bf h,A1 h,A1 hil,zT,U5 he,nP hil]
   simp only[AV,zA,Ay,kE he,gE he,nE he,lE he,N0 h,nR hil,lR hil,e1,AJ,An (show P.length<2147483648 by omega),hp,AZ (show i<9223372036854775807 by omega)]
   rw[A6 (z:=(AR (D5 es i).step (row ls i) xs).2),step,hd]
   simp
theorem UH (n:Nat) (hn:600<n) (es:List Ef) (hle:es.length≤100) (ho:∀ e∈es,e.Ok) (ls:List (List Nat)) (hf:Np es ls) (xs:List Nat) (hx:EO xs) (hl:xs.length≤256) :
  f72 (n+103) es.length (AH (CL es)) ls.length (ls.map NU) xs.length (AL .f32 xs) =
   some ((A0 es ls xs).1.length,AL .f32 (A0 es ls xs).1,(A0 es ls xs).2.length,(A0 es ls xs).2.map NU):=by
 have e1:=Sf n hn es.length es.length (AH (CL es)) es hle ho ls hf es.length 0 (n+102) [] xs (by omega) (by simp) hx hl (by omega)
 have e1:f72.l0 (n+102) (n+102) es.length (AH (CL es)) ls.length (ls.map NU) xs.length (AL .f32 xs) 0 [] es.length (AH (CL es)) (es.length:Int) 0=_:=e1
 have e0:=JG (n+101) xs (by omega)
 have e0:f79 (n+102) xs.length (AL .f32 xs)=_:=e0
 rw[f72,e0]
 simp only[AJ,e1,drop_zero,nil_append]
theorem Sd (n:Nat) {x:Nat} (hg:BX x):f158 (n+3) x=some (BF x):=by
 have hx:=hg.1
 rw[f158]
 cases hn:isNaN .f32 x
 ·obtain ⟨c1,c2,c3⟩:=aa hx hn
  cases hf:flt .f32 x 0
  ·have hb:f119 (n+2) x=some (x:Int):=by
    rw[f119,SX,hn]
    show bd (if isNaN .f32 x then none else some (x:Int)) _=_
    rw[hn]
    show some (IntKind.i64.wrap (x:Int))=_
    rw[BD] <;>omega
   rw[hb]
   simp only[br,bd]
   by_cases h:x=2147483648
   ·subst h
    rw[c3];rfl
   ·rw[show (((x:Nat):Int)==2147483648)=false by simp;omega]
    rcases c2 hf with h' | h'
    ·exact absurd h' h
    ·simp only;rw[← h']
  ·simp only[br];rw[c1 hf]
 ·have hq:x=D6 .f32:=by rw[← hg.2,BY hn]
  rw[cS 0 hn,an hn]
  have hb:f119 (n+2) x=some 2143289344:=by rw[f119,SX,hn];rfl
  rw[hb,hq];rfl
theorem Dv (n:Nat) {x:Nat} (h:BX x):f124 (n+3) x=some (Hb x):=by
 rw[f124,WI n h]
 simp only[AJ,Y4 x h.1,Xq x h.1]
 unfold Hb
 by_cases hx:x % 2147483648<8388608
 ·rw[decide_eq_true hx,if_pos hx,AV,cm n (by omega) (by have:=h.1;omega),zT]
  have:At .f32 (x / 2147483648 * 2147483648)=x / 2147483648 * 2147483648:=BA (by rw[O6];simp <;>omega)
  rw[this];rfl
 ·rw[decide_eq_false hx,if_neg hx];rfl
theorem Zo (x:T) (l:List T):reps 0 [x]++l=l:=rfl
theorem Rm (n:Nat) (by_:Nat):∀ (zs p acc:List Nat) (m:Nat),acc.length+zs.length<1048576→p.length+zs.length<1048576→zs.length<m →
  f122.l0 n m (p++zs).length (AL .f32 (p++zs)) by_ acc.length (AL .f32 acc) (p.length:Int)=some ((acc++zs.map fun z=>AM .f32 z by_).length,AL .f32 (acc++zs.map fun z=>AM .f32 z by_)):=by
 intro zs
 induction zs with
 | nil =>
   intro p acc m _ _ hm
   obtain ⟨m,rfl⟩:=zc m (by simp at hm;omega)
   rw[f122.l0,DD]
   simp[Af]
 | cons z zs ih =>
   intro p acc m ha hp hm
   obtain ⟨m,rfl⟩:=zc m (by simp at hm;omega)
   have ha':acc.length<1048576:=by simp at ha;omega
   rw[f122.l0,DB,Cu,BS,Ba,CD]
   have:=ih (p++[z]) (acc++[AM .f32 z by_]) m (by simp at ha ⊢;omega) (by simp at hp ⊢;omega) (by simp at hm;omega)
   simp only[AV,Ay,zA,B4,An (show acc.length<2147483648 by omega),Bt (z:=z) (show p.length<4611686018427387904 by simp at hp;omega)]
   simpa using this
theorem Zp (n:Nat) (xs:List Nat) (by_:Nat) (hx:xs.length<1048576) (hn:xs.length<n):f122 (n+1) xs.length (AL .f32 xs) by_=some ((xs.map fun z=>AM .f32 z by_).length,AL .f32 (xs.map fun z=>AM .f32 z by_)):=by
 have e:=Rm n by_ xs [] [] n (by simpa using hx) (by simpa using hx) (by omega)
 have e:f122.l0 n n xs.length (AL .f32 xs) by_ 0 (reps 0 [(T.flt .f32 0)]) 0=_:=e
 rw[f122,e];rfl
theorem MJ (n:Nat) {x:Nat} (b:Bool) (h:BX x):f172 (n+4) x b=some (fl? b x):=by
 rw[f172]
 cases b
 ·rfl
 ·simp only[AV,Dv n h,AJ];rfl
theorem bH (n:Nat) (f:SF) (form:Int) (b:Bool) (m:Yn) (x:Nat) (hm:UN m) (hx:BX x) :
  f154 (n+5) f.1 f.2.1 f.2.2.1 f.2.2.2.1 f.2.2.2.2 form b m.1 m.2.1 m.2.2.1 m.2.2.2 x =
   some ((BK f form b m x).1,(BK f form b m x).2.1,(BK f form b m x).2.2.1,(BK f form b m x).2.2.2.1,(BK f form b m x).2.2.2.2):=by
 obtain ⟨m1,m2,m3,m4⟩:=hm
 rw[f154]
 unfold BK
 by_cases h0:form=0
 ·simp only[h0,beq_self_eq_true,AV,if_true,MJ n b (Ck _ _),AJ]
  cases b
  ·rfl
  ·simp only[AV,Dv (n+1) hx,Dv (n+1) m1,Dv (n+1) m3,Dv (n+1) (w32_fl? (b:=true) (Ck _ _)),AJ];rfl
 ·have h0':(form==0)=false:=by simp[h0]
  simp only[h0',Af,if_neg h0]
  by_cases h1:form=1
  ·simp only[h1,beq_self_eq_true,AV,if_true,MJ n b (BV _ _),AJ]
   cases b
   ·rfl
   ·simp only[AV,Dv (n+1) (BV _ _),Dv (n+1) (Ck _ _),Dv (n+1) BZ,AJ];rfl
  ·have h1':(form==1)=false:=by simp[h1]
   simp only[h1',Af,if_neg h1,MJ n b (Ck _ _),AJ,MJ n b (BV _ _)]
   cases b
   ·rfl
   ·simp only[AV,Dv (n+1) (w32_fl? (b:=true) (Ck _ _)),Dv (n+1) m1,Dv (n+1) BZ,AJ];rfl
theorem VI (n:Nat) (f:SF) (form:Int) (b:Bool) (u:Yn):∀ (zs p acc:List Nat) (mm:Yn) (m:Nat),(∀ x∈zs,BX x)→UN mm→acc.length+zs.length<1048576→p.length+zs.length<1048576→zs.length<m →
  f123.l0 (n+5) m f.1 f.2.1 f.2.2.1 f.2.2.2.1 f.2.2.2.2 form b (p++zs).length (AL .f32 (p++zs)) mm.1 mm.2.1 mm.2.2.1 mm.2.2.2 u.1 u.2.1 u.2.2.1 u.2.2.2 acc.length (AL .f32 acc) (p.length:Int) =
   some ((AR (BK f form b) mm zs).2.1,(AR (BK f form b) mm zs).2.2.1,(AR (BK f form b) mm zs).2.2.2.1,(AR (BK f form b) mm zs).2.2.2.2,u.1,u.2.1,u.2.2.1,u.2.2.2,(acc++(AR (BK f form b) mm zs).1).length,AL .f32 (acc++(AR (BK f form b) mm zs).1)):=by
 intro zs
 induction zs with
 | nil =>
   intro p acc mm m _ _ _ _ hm
   obtain ⟨m,rfl⟩:=zc m (by simp at hm;omega)
   rw[f123.l0,DD]
   simp[Af,AR]
 | cons z zs ih =>
   intro p acc mm m hz hmm ha hp hm
   obtain ⟨m,rfl⟩:=zc m (by simp at hm;omega)
   have ha':acc.length<1048576:=by simp at ha;omega
   have hw:=hz z (by simp)
   rw[f123.l0,DB,Cu,BS,Ba,CD]
   simp only[AV,Ay,zA,bH n f form b mm z hmm hw,AJ,An (show acc.length<2147483648 by omega),B4,Bt (z:=z) (show p.length<4611686018427387904 by simp at hp;omega)]
   have:=ih (p++[z]) (acc++[(BK f form b mm z).1]) (BK f form b mm z).2 m (fun x hx=>hz x (by simp[hx])) (Mw hmm hw).2 (by simp at ha ⊢;omega) (by simp at hp ⊢;omega) (by simp at hm;omega)
   simpa [AR] using this
theorem eD (n:Nat) (f:SF) (form:Int) (b:Bool) (mm:Yn) (xs:List Nat) (hx:∀ x∈xs,BX x) (hm:UN mm) (hl:xs.length<1048576) (hn:xs.length<n) :
  f123 (n+6) f.1 f.2.1 f.2.2.1 f.2.2.2.1 f.2.2.2.2 form b mm.1 mm.2.1 mm.2.2.1 mm.2.2.2 xs.length (AL .f32 xs) =
   some ((AR (BK f form b) mm xs).1.length,AL .f32 (AR (BK f form b) mm xs).1,(AR (BK f form b) mm xs).2.1,(AR (BK f form b) mm xs).2.2.1,(AR (BK f form b) mm xs).2.2.2.1,(AR (BK f form b) mm xs).2.2.2.2):=by
 have e:=VI n f form b (0,0,0,0) xs [] [] mm (n+5) hx hm (by simpa using hl) (by simpa using hl) (by omega)
 have e:f123.l0 (n+5) (n+5) f.1 f.2.1 f.2.2.1 f.2.2.2.1 f.2.2.2.2 form b xs.length (AL .f32 xs) mm.1 mm.2.1 mm.2.2.1 mm.2.2.2 0 0 0 0 0 (reps 0 [(T.flt .f32 0)]) 0=_:=e
 rw[f123,e];rfl
theorem kT (n:Nat) (a r q:Nat) {l x:Nat} (hx:BX x):f155 (n+4) a r q l x=some (HB a r l x):=by
 rw[f155,Sd n hx]
 unfold HB
 simp only[AJ,Dv n (BV _ _)]
 cases F4 .f32 (BF x) l <;>rfl
theorem eb (n l t q:Nat):f156 (n+1) l t q=some (OT l t q):=by
 rw[f156]
 unfold OT
 cases F4 .f32 l t <;>rfl
theorem O5 (n:Nat) (a r t q u1 u2 u3 u4 u5:Nat):∀ (zs p acc:List Nat) (l m:Nat),(∀ x∈zs,BX x)→acc.length+zs.length<1048576→p.length+zs.length<1048576→zs.length<m →
  f125.l0 (n+4) m (p++zs).length (AL .f32 (p++zs)) (p++zs).length (AL .f32 (p++zs)) a r l t q u1 u2 u3 u4 u5 acc.length (AL .f32 acc) (p.length:Int) =
   some (a,r,(AR (Bb a r t q) l (zs.zip zs)).2,t,q,u1,u2,u3,u4,u5,(acc++(AR (Bb a r t q) l (zs.zip zs)).1).length,AL .f32 (acc++(AR (Bb a r t q) l (zs.zip zs)).1)):=by
 intro zs
 induction zs with
 | nil =>
   intro p acc l m _ _ _ hm
   obtain ⟨m,rfl⟩:=zc m (by simp at hm;omega)
   rw[f125.l0,DD];simp[Af,AR]
 | cons z zs ih =>
   intro p acc l m hz ha hp hm
   obtain ⟨m,rfl⟩:=zc m (by simp at hm;omega)
   have ha':acc.length<1048576:=by simp at ha;omega
   rw[f125.l0,DB,Cu,BS,Ba,CD]
   simp only[AV,Ay,zA,kT n a r l (hz z (by simp)),eb (n+3),AJ,An (show acc.length<2147483648 by omega),B4,Bt (z:=z) (show p.length<4611686018427387904 by simp at hp;omega)]
   have:=ih (p++[z]) (acc++[AM .f32 z (OT (HB a r l z) t q)]) (HB a r l z) m (fun x hx=>hz x (by simp[hx])) (by simp at ha ⊢;omega) (by simp at hp ⊢;omega) (by simp at hm;omega)
   simpa [AR,Bb] using this
theorem WK (n:Nat) (a r l t q:Nat) (xs:List Nat) (hx:∀ x∈xs,BX x) (hl:xs.length≤256) (hn:xs.length<n) :
  f125 (n+5) a r l t q xs.length (AL .f32 xs) xs.length (AL .f32 xs)=some ((AR (Bb a r t q) l (xs.zip xs)).1.length,AL .f32 (AR (Bb a r t q) l (xs.zip xs)).1,a,r,(AR (Bb a r t q) l (xs.zip xs)).2,t,q):=by
 have e:=O5 n a r t q 0 0 0 0 0 xs [] [] l (n+4) hx (by simp;omega) (by simp;omega) (by omega)
 have e:f125.l0 (n+4) (n+4) xs.length (AL .f32 xs) xs.length (AL .f32 xs) a r l t q 0 0 0 0 0 0 (reps 0 [(T.flt .f32 0)]) 0=_:=e
 rw[f125,e];rfl
theorem ZF (n:Nat) (lim:Nat) {x:Nat} (hx:BX x):f157 (n+4) x lim=some (D3 lim x):=by
 rw[f157,Sd n hx]
 simp only[AJ]
 unfold D3
 cases F4 .f32 (BF x) lim <;>cases flt .f32 x 0 <;>rfl
theorem Sh (n:Nat) (lim:Nat):∀ (zs p acc:List Nat) (m:Nat),(∀ x∈zs,BX x)→acc.length+zs.length<1048576→p.length+zs.length<1048576→zs.length<m →
  f126.l0 (n+4) m (p++zs).length (AL .f32 (p++zs)) lim acc.length (AL .f32 acc) (p.length:Int)=some ((acc++zs.map (D3 lim)).length,AL .f32 (acc++zs.map (D3 lim))):=by
 intro zs
 induction zs with
 | nil =>
   intro p acc m _ _ _ hm
   obtain ⟨m,rfl⟩:=zc m (by simp at hm;omega)
   rw[f126.l0,DD];simp[Af]
 | cons z zs ih =>
   intro p acc m hz ha hp hm
   obtain ⟨m,rfl⟩:=zc m (by simp at hm;omega)
   have ha':acc.length<1048576:=by simp at ha;omega
   rw[f126.l0,DB,Cu,BS,Ba,CD]
   simp only[AV,Ay,zA,ZF n lim (hz z (by simp)),AJ,An (show acc.length<2147483648 by omega),B4,Bt (z:=z) (show p.length<4611686018427387904 by simp at hp;omega)]
   have:=ih (p++[z]) (acc++[D3 lim z]) m (fun x hx=>hz x (by simp[hx])) (by simp at ha ⊢;omega) (by simp at hp ⊢;omega) (by simp at hm;omega)
   simpa using this
theorem bw (n:Nat) (lim:Nat) (xs:List Nat) (hx:∀ x∈xs,BX x) (hl:xs.length≤256) (hn:xs.length<n):f126 (n+5) xs.length (AL .f32 xs) lim=some (xs.length,AL .f32 (xs.map (D3 lim)),true):=by
 have e:=Sh n lim xs [] [] (n+4) hx (by simp;omega) (by simp;omega) (by omega)
 have e:f126.l0 (n+4) (n+4) xs.length (AL .f32 xs) lim 0 (reps 0 [(T.flt .f32 0)]) 0=_:=e
 rw[f126,XD,decide_eq_true (show (xs.length:Int)≤256 by omega)]
 simp only[AJ,IT,AV,e,nil_append,length_map]
theorem eE (n x:Nat):f127 (n+1) x=some (Fy x):=by
 rw[f127]
 unfold Fy
 cases Ly .f32 x 1065353216
 ·cases VQ .f32 x 3212836864 <;>rfl
 ·rfl
theorem S6 (n:Nat):∀ (zs p acc:List Nat) (m:Nat),acc.length+zs.length<1048576→p.length+zs.length<1048576→zs.length<m →
  f104.l1 (n+1) m (p++zs).length (AL .f32 (p++zs)) acc.length (AL .f32 acc) (p.length:Int)=some ((acc++zs.map Fy).length,AL .f32 (acc++zs.map Fy)):=by
 intro zs
 induction zs with
 | nil =>
   intro p acc m _ _ hm
   obtain ⟨m,rfl⟩:=zc m (by simp at hm;omega)
   rw[f104.l1,DD];simp[br]
 | cons z zs ih =>
   intro p acc m ha hp hm
   obtain ⟨m,rfl⟩:=zc m (by simp at hm;omega)
   have:=ih (p++[z]) (acc++[Fy z]) m (by simp at ha ⊢;omega) (by simp at hp ⊢;omega) (by simp at hm;omega)
   rw[f104.l1,DB,Cu,BS,Ba,CD,Bt (z:=z) (show p.length<4611686018427387904 by simp at hp;omega)]
   simp only[AV,Ay,zA,eE,AJ,An (show acc.length<2147483648 by simp at ha;omega),B4]
   simpa using this
theorem Tb (n:Nat) (pp qq:Nat):∀ (zs p acc w:List Nat) (m:Nat),0<w.length→w.length≤64→acc.length+zs.length<1048576→p.length+zs.length<1048576→zs.length<m →
  f104.l0 (n+3) m (p++zs).length (AL .f32 (p++zs)) 2 (AL .f32 [pp,qq]) w.length (AL .f32 w) acc.length (AL .f32 acc) (p.length:Int) =
   some ((AR (Bs pp qq) w zs).2.length,AL .f32 (AR (Bs pp qq) w zs).2,(acc++(AR (Bs pp qq) w zs).1).length,AL .f32 (acc++(AR (Bs pp qq) w zs).1)):=by
 intro zs
 induction zs with
 | nil =>
   intro p acc w m _ _ _ _ hm
   obtain ⟨m,rfl⟩:=zc m (by simp at hm;omega)
   rw[f104.l0,DD];simp[br,AR]
 | cons z zs ih =>
   intro p acc w m h0 h1 ha hp hm
   obtain ⟨m,rfl⟩:=zc m (by simp at hm;omega)
   have hlen:(Bs pp qq w z).2.length=w.length:=I9 h0
   have step:=ih (p++[z]) (acc++[(Bs pp qq w z).1]) (Bs pp qq w z).2 m (by omega) (by omega) (by simp at ha ⊢;omega) (by simp at hp ⊢;omega) (by simp at hm;omega)
   have g1:decide ((0:Int)≤0∧(0:Int)<(w.length:Int))=true:=decide_eq_true (by omega)
   have g2:AI [.flt .f32] (AL .f32 w) 0=true:=BH h0
   have g3:BR (AL .f32 w) 0=XB w:=Cy ..
   have g4:decide ((0:Int)≤1∧(1:Int)<((2:Nat):Int))=true:=rfl
   have g5:decide ((0:Int)≤0∧(0:Int)<((2:Nat):Int))=true:=rfl
   have g6:AI [.flt .f32] (AL .f32 [pp,qq]) 0=true:=rfl
   have g7:AI [.flt .f32] (AL .f32 [pp,qq]) 1=true:=rfl
   have g8:BR (AL .f32 [pp,qq]) 0=pp:=rfl
   have g9:BR (AL .f32 [pp,qq]) 1=qq:=rfl
   have g10:decide ((0:Int)≤1∧(1:Int)≤(w.length:Int)∧(w.length:Int)≤(w.length:Int))=true:=decide_eq_true (by omega)
   have g11:Nat.ble (0+(w.length - 1)) 2147483648=true:=Dj (by omega)
   have g12:Nat.ble (Bs pp qq w z).2.length 2147483648=true:=Dj (by omega)
   have tk:∀ y,(reps 0 [(T.flt .f32 0)]++((AL .f32 w).drop 1).take (w.length - 1))++AF (reps 1 [(T.flt .f32 0)]) 0 [T.flt .f32 y]=AL .f32 (NN w y):=fun y=>by
    rw[Po]
    exact B4 .f32 (w.drop 1) y
   have tl:0+(w.length - 1)+1=(Bs pp qq w z).2.length:=by rw[hlen];omega
   rw[f104.l0,DB,Cu,BS,Ba,CD]
   have w' :=Bt (z:=z) (p:=p) (show p.length<4611686018427387904 by simp at hp;omega)
   simp only[AV,Ay,zA,g1,g2,g3,g4,g5,g6,g7,g8,g9,g10,g11,g12,An (show acc.length<2147483648 by simp at ha;omega),B4,Dv n (BV _ _),AJ,w',tl,tk]
   rw[A6 (z:=(Bs pp qq w z).1)]
   rw[append_assoc,append_assoc] at step
   exact step
theorem TW (n:Nat) (l:Nat):f121 (n+2) l=some (CO l&&F4 .f32 l 0):=by
 have e:f153 (n+1) l=some (CO l):=by rw[f153,PA]
 rw[f121,e]
 cases CO l <;>rfl
theorem VF (n:Nat) (N:Nat) (cs:List T) (x3 x4 x5:Nat) (n6:Nat) (l7:List T) (x8 x9 x10 n11:Nat) (l12:List T) (n15:Nat) (l16:List T) (i17:Int):∀ (zs p:List Nat) (x m:Nat),(∀ y∈zs,BX y)→p.length+zs.length<1048576→zs.length<m →
  f128.l1 (n+3) m N cs x3 x4 x5 n6 l7 x8 x9 x10 n11 l12 (p++zs).length (AL .f32 (p++zs)) n15 l16 i17 x (p.length:Int) =
   some (N,cs,x3,x4,x5,n6,l7,x8,x9,x10,n11,l12,(p++zs).length,AL .f32 (p++zs),n15,l16,i17,C0 x zs):=by
 intro zs
 induction zs with
 | nil =>
   intro p x m _ _ hm
   obtain ⟨m,rfl⟩:=zc m (by simp at hm;omega)
   rw[f128.l1,DD];simp[br,C0]
 | cons z zs ih =>
   intro p x m hz hp hm
   obtain ⟨m,rfl⟩:=zc m (by simp at hm;omega)
   have hs:=Sd n (hz z (by simp))
   have w' :=Bt (z:=z) (p:=p) (show p.length<4611686018427387904 by simp at hp;omega)
   rw[f128.l1,DB,Cu,BS,Ba,CD]
   simp only[AV,Ay,zA,hs,AJ,w']
   have e:C0 x (z::zs)=C0 (if F4 .f32 (BF z) x then BF z else x) zs:=rfl
   rw[e]
   cases F4 .f32 (BF z) x
   ·have:=ih (p++[z]) x m (fun y hy=>hz y (by simp[hy])) (by simp at hp ⊢;omega) (by simp at hm;omega)
    rw[Af];simpa using this
   ·have:=ih (p++[z]) (BF z) m (fun y hy=>hz y (by simp[hy])) (by simp at hp ⊢;omega) (by simp at hm;omega)
    rw[AV];simpa using this
theorem WC (n:Nat) (lim rise n6:Nat) (l7:List T) (x8 x9 x10 n11:Nat) (l12:List T) (hl:BX lim):∀ (zs p acc:List Nat) (s:Nat × List Nat) (m:Nat),(∀ x∈zs,BX x)→(BX s.1∧EO s.2)→s.2.length≤64→acc.length+zs.length<1048576→p.length+zs.length<1048576→zs.length<m →
  f128.l0 (n+100) m (p++zs).length (AL .f32 (p++zs)) lim rise s.1 n6 l7 x8 x9 x10 n11 l12 s.2.length (AL .f32 s.2) acc.length (AL .f32 acc) (p.length:Int) =
   some (lim,rise,(AR (AT lim rise) s zs).2.1,n6,l7,x8,x9,x10,n11,l12,(AR (AT lim rise) s zs).2.2.length,AL .f32 (AR (AT lim rise) s zs).2.2,(acc++(AR (AT lim rise) s zs).1).length,AL .f32 (acc++(AR (AT lim rise) s zs).1)):=by
 intro zs
 induction zs with
 | nil =>
   intro p acc s m _ _ _ _ _ hm
   obtain ⟨m,rfl⟩:=zc m (by simp at hm;omega)
   rw[f128.l0,DD]
   simp[Af,AR]
 | cons z zs ih =>
   intro p acc s m hz hs hw ha hp hm
   obtain ⟨m,rfl⟩:=zc m (by simp at hm;omega)
   have hp':p.length<1048576:=by simp at hp;omega
   have ha':acc.length<1048576:=by simp at ha;omega
   have hall:EO (s.2++[z]):=fun y hy=>by
    simp only[mem_append,mem_singleton] at hy
    rcases hy with h | rfl
    ·exact hs.2 y h
    ·exact hz _ (by simp)
   have hpk:=VF (n+97) (p++z::zs).length (AL .f32 (p++z::zs)) lim rise s.1 n6 l7 x8 x9 x10 n11 l12 acc.length (AL .f32 acc) (p.length:Int) (s.2++[z]) [] 0 (n+100) hall (by simp;omega) (by simp;omega)
   have hpk:f128.l1 (n+100) (n+100) (p++z::zs).length (AL .f32 (p++z::zs)) lim rise s.1 n6 l7 x8 x9 x10 n11 l12 (s.2++[z]).length (AL .f32 (s.2++[z])) acc.length (AL .f32 acc) (p.length:Int) 0 0=some ((p++z::zs).length,AL .f32 (p++z::zs),lim,rise,s.1,n6,l7,x8,x9,x10,n11,l12,(s.2++[z]).length,AL .f32 (s.2++[z]),acc.length,AL .f32 acc,(p.length:Int),C0 0 (s.2++[z])):=hpk
   have hlen:s.2.length+1=(s.2++[z]).length:=by simp
   have c0:Nat.ble (s.2++[z]).length 2147483648=true:=Dj (by simp;omega)
   have c1:decide ((0:Int)≤1∧(1:Int)≤((s.2++[z]).length:Int)∧((s.2++[z]).length:Int)≤((s.2++[z]).length:Int))=true:=decide_eq_true (by simp;omega)
   have c2:reps 0 [(T.flt .f32 0)]++((AL .f32 (s.2++[z])).drop 1).take ((s.2++[z]).length - 1)=AL .f32 ((s.2++[z]).drop 1):=by
    rw[MI,I3,take_of_length_le (by simp)];rfl
   have c3:decide ((0:Int)≤0∧(0:Int)<((s.2++[z]).length:Int))=true:=decide_eq_true (by simp)
   have c4:AI [.flt .f32] (AL .f32 (s.2++[z])) 0=true:=BH (by simp)
   have c5:0+((s.2++[z]).length - 1)=((s.2++[z]).drop 1).length:=by simp
   have c6:Nat.ble ((s.2++[z]).drop 1).length 2147483648=true:=Dj (by simp;omega)
   have ih' :=ih (p++[z]) (acc++[(AT lim rise s z).1]) (AT lim rise s z).2 m (fun x hx=>hz x (by simp[hx]))
    ⟨OM P4 (BV _ _),fun y hy=>hall y (mem_of_mem_drop hy)⟩ (by simp[AT];omega) (by simp at ha ⊢;omega) (by simp at hp ⊢;omega) (by simp at hm;omega)
   rw[show p++[z]++zs=p++z::zs by simp] at ih'
   rw[f128.l0,DB,Cu,BS,Ba,CD]
   simp only[AV,Ay,zA,AJ,B4,hlen,c0,hpk,c1,c2,c3,c4,Cy,c5,c6,ZF (n+96) lim (G8 _ _),An (show acc.length<2147483648 by omega),Bt (z:=z) (show p.length<4611686018427387904 by omega)]
   have e1:AR (AT lim rise) s (z::zs)=((AT lim rise s z).1::(AR (AT lim rise) (AT lim rise s z).2 zs).1,(AR (AT lim rise) (AT lim rise s z).2 zs).2):=rfl
   rw[e1]
   have e2:∀ t gn,L1 lim (C0 0 (s.2++[z]))=t→Au .f32 s.1 rise=gn→∀ g,Iy t gn=g→AT lim rise s z=(D3 lim (AM .f32 ((s.2++[z]).getD 0 0) g),(g,(s.2++[z]).drop 1)):=by
    rintro t gn rfl rfl g rfl
    rfl
   have e3:acc++(AT lim rise s z).1::(AR (AT lim rise) (AT lim rise s z).2 zs).1=(acc++[(AT lim rise s z).1])++(AR (AT lim rise) (AT lim rise s z).2 zs).1:=by simp
   have e4:(acc++[(AT lim rise s z).1]).length=acc.length+1:=by simp
   simp only[e3]
   rw[e4] at ih'
   cases hc:F4 .f32 (C0 0 (s.2++[z])) lim
   ·have ht:L1 lim (C0 0 (s.2++[z]))=1065353216:=by unfold L1;simp[hc]
    cases h1:flt .f32 1065353216 (Au .f32 s.1 rise)
    ·cases h2:TG .f32 (Au .f32 s.1 rise) (Au .f32 s.1 rise)
     ·have e:=e2 _ _ ht rfl (Au .f32 s.1 rise) (by unfold Iy;simp[h1,h2])
      rw[e] at ih' ⊢
      exact ih'
     ·have e:=e2 _ _ ht rfl 1065353216 (by unfold Iy;simp[h1,h2])
      rw[e] at ih' ⊢
      exact ih'
    ·have e:=e2 _ _ ht rfl 1065353216 (by unfold Iy;simp[h1])
     rw[e] at ih' ⊢
     exact ih'
   ·have ht:L1 lim (C0 0 (s.2++[z]))=fdiv .f32 lim (C0 0 (s.2++[z])):=by unfold L1;simp[hc]
    cases h1:flt .f32 (fdiv .f32 lim (C0 0 (s.2++[z]))) (Au .f32 s.1 rise)
    ·cases h2:TG .f32 (Au .f32 s.1 rise) (Au .f32 s.1 rise)
     ·have e:=e2 _ _ ht rfl (Au .f32 s.1 rise) (by unfold Iy;simp[h1,h2])
      rw[e] at ih' ⊢
      exact ih'
     ·have e:=e2 _ _ ht rfl (fdiv .f32 lim (C0 0 (s.2++[z]))) (by unfold Iy;simp[h1,h2])
      rw[e] at ih' ⊢
      exact ih'
    ·have e:=e2 _ _ ht rfl (fdiv .f32 lim (C0 0 (s.2++[z]))) (by unfold Iy;simp[h1])
     rw[e] at ih' ⊢
     exact ih'
theorem Rv (n:Nat) (lim rise g:Nat) (w xs:List Nat) (hl:BX lim) (hlim:(CO lim&&F4 .f32 lim 0)=true) (hg:BX g) (hw:EO w) (hwl:w.length≤64) (hx:∀ x∈xs,BX x) (hxl:xs.length≤256) (hn:300<n) :
  f128 (n+101) lim rise g w.length (AL .f32 w) xs.length (AL .f32 xs) =
   some ((AR (AT lim rise) (g,w) xs).1.length,AL .f32 (AR (AT lim rise) (g,w) xs).1,lim,rise,(AR (AT lim rise) (g,w) xs).2.1,(AR (AT lim rise) (g,w) xs).2.2.length,AL .f32 (AR (AT lim rise) (g,w) xs).2.2,true):=by
 have e:=WC n lim rise w.length (AL .f32 w) 0 0 0 0 [] hl xs [] [] (g,w) (n+100) hx ⟨hg,hw⟩ hwl (by simp;omega) (by simp;omega) (by omega)
 have e:f128.l0 (n+100) (n+100) xs.length (AL .f32 xs) lim rise g w.length (AL .f32 w) 0 0 0 0 [] w.length (AL .f32 w) 0 (reps 0 [(T.flt .f32 0)]) 0=_:=e
 rw[f128,TW,hlim,XD,decide_eq_false (show ¬ (w.length:Int)>64 by omega),decide_eq_true (show (xs.length:Int)≤256 by omega),Dj (show 0+w.length≤2147483648 by omega)]
 simp only[AJ,IT,AV,Af,Ay,Nat.zero_add,Zo,e,nil_append]
theorem YH (n:Nat) {e:Ef} (he:e.Ok) {w xs:List Nat} (hf:bF e w) (hx:EO xs) (hl:xs.length≤256) (hn:600<n) :
  f104 (n+102) e.eff.kind e.eff.len e.eff.nums.length (AL .f32 e.eff.nums) w.length (AL .f32 w) xs.length (AL .f32 xs) =
   some ((AR e.step w xs).1.length,AL .f32 (AR e.step w xs).1,(AR e.step w xs).2.length,AL .f32 (AR e.step w xs).2):=by
 obtain ⟨hwl,hww⟩:=hf
 rw[f104]
 cases e with
 | scale g =>
   obtain rfl:w=[]:=length_eq_zero_iff.1 hwl
   have e1:=Zp (n+100) xs g (by omega) (by omega)
   have e1:f122 (n+101) xs.length (AL .f32 xs) g=_:=e1
   have g1:decide ((0:Int)≤0∧(0:Int)<(([g].length:Nat):Int))=true:=rfl
   have g2:AI [.flt .f32] (AL .f32 [g]) 0=true:=rfl
   have g3:BR (AL .f32 [g]) 0=g:=rfl
   have hs:AR (Ef.scale g).step [] xs=(xs.map fun z=>AM .f32 z g,[]):=FN (fun z=>AM .f32 z g) xs
   simp only[Ef.eff,beq_self_eq_true,AV,g1,g2,g3,zA,Ay,e1,AJ,hs]
   rfl
 | filt a b c d f =>
   have hw2:w.length=2:=hwl
   obtain ⟨u,v,hs2,hs⟩:=UQ a b c d f xs w hw2
   have e1:=eD (n+95) (a,b,c,d,f) 1 true (w.getD 0 0,w.getD 1 0,0,0) xs hx ⟨I7 hww 0,I7 hww 1,BZ,BZ⟩ (by omega) (by omega)
   rw[hs] at e1
   have e1:f123 (n+101) a b c d f 1 true (w.getD 0 0) (w.getD 1 0) 0 0 xs.length (AL .f32 xs)=_:=e1
   have g (i:Nat) (hi:i<5):AI [.flt .f32] (AL .f32 [a,b,c,d,f]) i=true:=BH (by simpa using hi)
   have k0:BR (AL .f32 [a,b,c,d,f]) 0=a:=rfl
   have k1:BR (AL .f32 [a,b,c,d,f]) 1=b:=rfl
   have k2:BR (AL .f32 [a,b,c,d,f]) 2=c:=rfl
   have k3:BR (AL .f32 [a,b,c,d,f]) 3=d:=rfl
   have k4:BR (AL .f32 [a,b,c,d,f]) 4=f:=rfl
   have d0:decide ((0:Int)≤0∧(0:Int)<(([a,b,c,d,f].length:Nat):Int))=true:=rfl
   have d1:decide ((0:Int)≤1∧(1:Int)<(([a,b,c,d,f].length:Nat):Int))=true:=rfl
   have d2:decide ((0:Int)≤2∧(2:Int)<(([a,b,c,d,f].length:Nat):Int))=true:=rfl
   have d3:decide ((0:Int)≤3∧(3:Int)<(([a,b,c,d,f].length:Nat):Int))=true:=rfl
   have d4:decide ((0:Int)≤4∧(4:Int)<(([a,b,c,d,f].length:Nat):Int))=true:=rfl
   have w0:AI [.flt .f32] (AL .f32 w) 0=true:=BH (by omega)
   have w1:AI [.flt .f32] (AL .f32 w) 1=true:=BH (by omega)
   have q0:decide ((0:Int)≤0∧(0:Int)<(w.length:Int))=true:=decide_eq_true (by omega)
   have q1:decide ((0:Int)≤1∧(1:Int)<(w.length:Int))=true:=decide_eq_true (by omega)
   simp only[Ef.eff,show ((1:Int)==0)=false from rfl,beq_self_eq_true,AV,Af,g 0 (by decide),g 1 (by decide),g 2 (by decide),g 3 (by decide),g 4 (by decide),k0,k1,k2,k3,k4,d0,d1,d2,d3,d4,w0,w1,q0,q1,Cy,zA,Ay,e1,AJ,hs2]
   rfl
 | echo L p q =>
   have hL:1≤L∧L≤32:=he
   have hwL:w.length=L:=hwl
   have e1:=Tb (n+98) p q xs [] [] w (n+101) (by omega) (by omega) (by simp;omega) (by simp;omega) (by omega)
   have e1:f104.l0 (n+101) (n+101) xs.length (AL .f32 xs) [p,q].length (AL .f32 [p,q]) w.length (AL .f32 w) 0 (reps 0 [(T.flt .f32 0)]) 0=_:=e1
   simp only[Ef.eff,show ((2:Int)==0)=false from rfl,show ((2:Int)==1)=false from rfl,beq_self_eq_true,AV,Af,Dj (show 0+w.length≤2147483648 by omega),Ay,AJ,Nat.zero_add,Zo,Dj (show w.length≤2147483648 by omega)]
   rw[e1]
   simp only[AJ,nil_append]
   rfl
 | squeeze a r t q =>
   have hw1:w.length=1:=hwl
   obtain ⟨u,hs2,hs⟩:=NL a r t q xs w hw1
   have e1:=WK (n+96) a r (w.getD 0 0) t q xs hx hl (by omega)
   rw[hs] at e1
   have e1:f125 (n+101) a r (w.getD 0 0) t q xs.length (AL .f32 xs) xs.length (AL .f32 xs)=_:=e1
   have g (i:Nat) (hi:i<4):AI [.flt .f32] (AL .f32 [a,r,t,q]) i=true:=BH (by simpa using hi)
   have k0:BR (AL .f32 [a,r,t,q]) 0=a:=rfl
   have k1:BR (AL .f32 [a,r,t,q]) 1=r:=rfl
   have k2:BR (AL .f32 [a,r,t,q]) 2=t:=rfl
   have k3:BR (AL .f32 [a,r,t,q]) 3=q:=rfl
   have d0:decide ((0:Int)≤0∧(0:Int)<(([a,r,t,q].length:Nat):Int))=true:=rfl
   have d1:decide ((0:Int)≤1∧(1:Int)<(([a,r,t,q].length:Nat):Int))=true:=rfl
   have d2:decide ((0:Int)≤2∧(2:Int)<(([a,r,t,q].length:Nat):Int))=true:=rfl
   have d3:decide ((0:Int)≤3∧(3:Int)<(([a,r,t,q].length:Nat):Int))=true:=rfl
   have w0:AI [.flt .f32] (AL .f32 w) 0=true:=BH (by omega)
   have q0:decide ((0:Int)≤0∧(0:Int)<(w.length:Int))=true:=decide_eq_true (by omega)
   simp only[Ef.eff,show ((3:Int)==0)=false from rfl,show ((3:Int)==1)=false from rfl,show ((3:Int)==2)=false from rfl,beq_self_eq_true,AV,Af,g 0 (by decide),g 1 (by decide),g 2 (by decide),g 3 (by decide),k0,k1,k2,k3,d0,d1,d2,d3,w0,q0,zA,Ay]
   rw[Cy]
   simp only[e1,AJ,hs2]
   rfl
 | clip g =>
   obtain rfl:w=[]:=length_eq_zero_iff.1 hwl
   have e1:=bw (n+96) g xs hx hl (by omega)
   have e1:f126 (n+101) xs.length (AL .f32 xs) g=_:=e1
   have g1:decide ((0:Int)≤0∧(0:Int)<(([g].length:Nat):Int))=true:=rfl
   have g2:AI [.flt .f32] (AL .f32 [g]) 0=true:=rfl
   have g3:BR (AL .f32 [g]) 0=g:=rfl
   have hs:AR (Ef.clip g).step [] xs=(xs.map (D3 g),[]):=FN (D3 g) xs
   simp only[Ef.eff,show ((4:Int)==0)=false from rfl,show ((4:Int)==1)=false from rfl,show ((4:Int)==2)=false from rfl,show ((4:Int)==3)=false from rfl,beq_self_eq_true,AV,Af,g1,g2,g3,zA,Ay,e1,AJ,hs,length_map]
   rfl
 | bend =>
   obtain rfl:w=[]:=length_eq_zero_iff.1 hwl
   have e1:=S6 (n+100) xs [] [] (n+101) (by simp;omega) (by simp;omega) (by omega)
   have e1:f104.l1 (n+101) (n+101) xs.length (AL .f32 xs) 0 (reps 0 [(T.flt .f32 0)]) 0=_:=e1
   have hs:AR Ef.bend.step [] xs=(xs.map Fy,[]):=FN Fy xs
   simp only[Ef.eff,show ((5:Int)==0)=false from rfl,show ((5:Int)==1)=false from rfl,show ((5:Int)==2)=false from rfl,show ((5:Int)==3)=false from rfl,show ((5:Int)==4)=false from rfl,beq_self_eq_true,AV,Af,e1,AJ,hs]
   rfl
 | lim A k r =>
   have hA:A≤32∧BX k∧(CO k&&F4 .f32 k 0)=true:=he
   have hwA:w.length=A+1:=hwl
   obtain ⟨gg,v,hs2,hs⟩:=W8 A k r xs w hwA
   have hk:=hA.2.2
   have e1:=Rv n k r (w.getD 0 0) (w.drop 1) xs hA.2.1 hk (I7 hww 0) (fun y hy=>hww y (mem_of_mem_drop hy)) (by simp;omega) hx hl (by omega)
   rw[hs,length_drop] at e1
   have hfit:=Jy (e:=.lim A k r) he xs ⟨hwl,hww⟩ hx
   have hv:v.length=A:=by
    have h1:(AR (Ef.lim A k r).step w xs).2.length=A+1:=hfit.2.1
    rw[hs2] at h1
    simpa using h1
   have g1:decide ((0:Int)≤0∧(0:Int)<(([k,r].length:Nat):Int))=true:=rfl
   have g2:AI [.flt .f32] (AL .f32 [k,r]) 0=true:=rfl
   have g3:BR (AL .f32 [k,r]) 0=k:=rfl
   have g4:decide ((0:Int)≤1∧(1:Int)<(([k,r].length:Nat):Int))=true:=rfl
   have g5:AI [.flt .f32] (AL .f32 [k,r]) 1=true:=rfl
   have g6:BR (AL .f32 [k,r]) 1=r:=rfl
   have w0:AI [.flt .f32] (AL .f32 w) 0=true:=BH (by omega)
   have q0:decide ((0:Int)≤0∧(0:Int)<(w.length:Int))=true:=decide_eq_true (by omega)
   have q1:decide ((0:Int)≤1∧(1:Int)≤(w.length:Int)∧(w.length:Int)≤(w.length:Int))=true:=decide_eq_true (by omega)
   have b1:Nat.ble (1+v.length) 2147483648=true:=by rw[Nat.ble_eq];omega
   simp only[Ef.eff,show ((6:Int)==0)=false from rfl,show ((6:Int)==1)=false from rfl,show ((6:Int)==2)=false from rfl,show ((6:Int)==3)=false from rfl,show ((6:Int)==4)=false from rfl,show ((6:Int)==5)=false from rfl,Af,g1,g2,g3,g4,g5,g6,w0,q0,q1,zA,Ay,Po]
   rw[Cy]
   simp only[e1,AJ,b1,Ay,hs2]
   rw[Nat.add_comm 1 v.length]
   rfl
theorem Qk (n:Nat) (hn:600<n) (es:List Ef) (hle:es.length≤100) (ho:∀ e∈es,e.Ok) (ls:List (List Nat)) (hf:Np es ls):∀ (j i m:Nat) (P:List (List Nat)) (xs:List Nat),i+j=es.length→P.length≤i→EO xs→xs.length≤256→j<m →
  f66.l0 (n+102) m es.length (AH (CL es)) ls.length (ls.map NU) xs.length (AL .f32 xs) P.length (P.map NU) (i:Int) =
   some ((A0 (es.drop i) (ls.drop i) xs).1.length,AL .f32 (A0 (es.drop i) (ls.drop i) xs).1,(P++(A0 (es.drop i) (ls.drop i) xs).2).length,(P++(A0 (es.drop i) (ls.drop i) xs).2).map NU):=by
 have hlen:=hf.len
 intro j
 induction j with
 | zero =>
   intro i m P xs hi hP hx hl hm
   obtain ⟨m,rfl⟩:=zc m (by omega)
   rw[f66.l0,A8 (by omega),drop_eq_nil_of_le (show es.length≤i by omega),drop_eq_nil_of_le (show ls.length≤i by omega)]
   simp only[Af,A0,append_nil]
 | succ j ih =>
   intro i m P xs hi hP hx hl hm
   obtain ⟨m,rfl⟩:=zc m (by omega)
   have h:i<es.length:=by omega
   have he:i<(CL es).length:=by rw[CU];exact h
   have hil:i<ls.length:=by omega
   have hO:=ho _ (MU h)
   have hF:=hf.at i h
   have e1:=YH n hO hF hx hl hn
   obtain ⟨f1,f2⟩:=Jy hO xs hF hx
   have l1:(AR (D5 es i).step (row ls i) xs).1.length=xs.length:=HF _ _ _
   have step:=ih (i+1) m (P++[(AR (D5 es i).step (row ls i) xs).2]) (AR (D5 es i).step (row ls i) xs).1 (by omega) (by simp;omega) f1 (by omega) (by omega)
   have hd:A0 (es.drop i) (ls.drop i) xs=((A0 (es.drop (i+1)) (ls.drop (i+1)) (AR (D5 es i).step (row ls i) xs).1).1,(AR (D5 es i).step (row ls i) xs).2::(A0 (es.drop (i+1)) (ls.drop (i+1)) (AR (D5 es i).step (row ls i) xs).1).2):=by
    rw[N4 h,Um hil];rfl
   have hp:=OI P (AR (D5 es i).step (row ls i) xs).2
   rw[f66.l0,Bf h,A1 h,A1 hil,zT,U5 he,nP hil]
   simp only[AV,zA,Ay,kE he,gE he,nE he,lE he,N0 h,nR hil,lR hil,e1,AJ,An (show P.length<2147483648 by omega),hp,AZ (show i<9223372036854775807 by omega)]
   rw[A6 (z:=(AR (D5 es i).step (row ls i) xs).2),step,hd]
   simp
theorem Vj (n:Nat) (hn:600<n) (es:List Ef) (hle:es.length≤100) (ho:∀ e∈es,e.Ok) (ls:List (List Nat)) (hf:Np es ls) (xs:List Nat) (hx:EO xs) (hl:xs.length≤256) :
  f66 (n+103) es.length (AH (CL es)) ls.length (ls.map NU) xs.length (AL .f32 xs) =
   some ((A0 es ls xs).1.length,AL .f32 (A0 es ls xs).1,(A0 es ls xs).2.length,(A0 es ls xs).2.map NU):=by
 have e1:=Qk n hn es hle ho ls hf es.length 0 (n+102) [] xs (by omega) (by simp) hx hl (by omega)
 have e1:f66.l0 (n+102) (n+102) es.length (AH (CL es)) ls.length (ls.map NU) xs.length (AL .f32 xs) 0 (reps 0 [(T.lst 0 [])]) 0=_:=e1
 rw[f66,Dj (show 0+xs.length≤2147483648 by omega)]
 simp only[Ay,Nat.zero_add,Zo,e1,AJ,drop_zero,nil_append]
def IV (e:BM):Bool :=
 if e.kind=0∨e.kind=4 then decide (e.len=0∧e.nums.length=1)
 else if e.kind=1 then decide (e.len=0∧e.nums.length=5)
 else if e.kind=2 then decide ((1≤e.len∧e.len≤32)∧e.nums.length=2)
 else if e.kind=3 then decide (e.len=0∧e.nums.length=4)
 else if e.kind=5 then decide (e.len=0∧e.nums.length=0)
 else if e.kind=6 then decide ((0≤e.len∧e.len≤32)∧e.nums.length=2)&&(CO (e.nums.getD 0 0)&&F4 .f32 (e.nums.getD 0 0) 0)
 else false
theorem gM (n:Nat) (a b:Int) (c:Nat) (l:List T) (lo hi k:Int):f144 (n+2) a b c l lo hi k=some (decide (lo≤b∧b≤hi)&&((c:Int)==k)):=by
 rw[f144,V1]
 simp only[AJ]
 cases decide (lo≤b∧b≤hi) <;>rfl
theorem Oy (k:Int):k=0∨k=1∨k=2∨k=3∨k=4∨k=5∨k=6∨((k==0)=false∧(k==1)=false∧(k==2)=false∧(k==3)=false∧(k==4)=false∧(k==5)=false∧(k==6)=false):=by
 simp only[beq_eq_false_iff_ne];omega
theorem Fb (b:Int) (c:Nat) (k:Nat):(decide ((0:Int)≤b∧b≤0)&&((c:Int)==(k:Int)))=decide (b=0∧c=k):=by
 rw[Bool.eq_iff_iff];simp;omega
theorem ZJ (n:Nat) (e:BM):f115 (n+4) e.kind e.len e.nums.length (AL .f32 e.nums)=some (IV e):=by
 obtain ⟨k,b,l⟩:=e
 rw[f115]
 unfold IV
 simp only[gM (n+1)]
 rcases Oy k with rfl | rfl | rfl | rfl | rfl | rfl | rfl | ⟨h0,h1,h2,h3,h4,h5,h6⟩
 ·have:=Fb b l.length 1
  simp only[beq_self_eq_true,AV,AJ]
  rw[show ((1:Nat):Int)=1 from rfl] at this
  rw[this];rfl
 ·have:=Fb b l.length 5
  simp only[show ((1:Int)==0)=false from rfl,show ((1:Int)==4)=false from rfl,beq_self_eq_true,AV,Af,AJ]
  rw[show ((5:Nat):Int)=5 from rfl] at this
  rw[this];rfl
 ·simp only[show ((2:Int)==0)=false from rfl,show ((2:Int)==4)=false from rfl,show ((2:Int)==1)=false from rfl,beq_self_eq_true,AV,Af,AJ]
  congr 1
  rw[if_neg (by decide),if_neg (by decide),if_pos trivial,Bool.eq_iff_iff];simp;omega
 ·have:=Fb b l.length 4
  simp only[show ((3:Int)==0)=false from rfl,show ((3:Int)==4)=false from rfl,show ((3:Int)==1)=false from rfl,show ((3:Int)==2)=false from rfl,beq_self_eq_true,AV,Af,AJ]
  rw[show ((4:Nat):Int)=4 from rfl] at this
  rw[this];rfl
 ·have:=Fb b l.length 1
  simp only[show ((4:Int)==0)=false from rfl,beq_self_eq_true,AV,Af,AJ]
  rw[show ((1:Nat):Int)=1 from rfl] at this
  rw[this];rfl
 ·have:=Fb b l.length 0
  simp only[show ((5:Int)==0)=false from rfl,show ((5:Int)==4)=false from rfl,show ((5:Int)==1)=false from rfl,show ((5:Int)==2)=false from rfl,show ((5:Int)==3)=false from rfl,beq_self_eq_true,AV,Af,AJ]
  rw[show ((0:Nat):Int)=0 from rfl] at this
  rw[this];rfl
 ·simp only[show ((6:Int)==0)=false from rfl,show ((6:Int)==4)=false from rfl,show ((6:Int)==1)=false from rfl,show ((6:Int)==2)=false from rfl,show ((6:Int)==3)=false from rfl,show ((6:Int)==5)=false from rfl,beq_self_eq_true,AV,Af,AJ]
  rw[if_neg (by decide),if_neg (by decide),if_neg (by decide),if_neg (by decide),if_neg (by decide),if_pos trivial]
  by_cases hv:(0≤b∧b≤32)∧l.length=2
  ·rw[decide_eq_true hv.1,decide_eq_true hv,show (((l.length:Nat):Int)==2)=true by rw[hv.2];rfl,decide_eq_true (show (0:Int)≤0∧(0:Int)<((l.length:Nat):Int) by omega),BH (by omega)]
   simp only[zA,AV,Ay,Mi,AJ,Cy,Bool.true_and]
  ·rw[decide_eq_false hv]
   have:(decide (0≤b∧b≤32)&&(((l.length:Nat):Int)==2))=false:=by
    rw[Bool.eq_false_iff];intro h;apply hv;simp at h;omega
   rw[this];rfl
 ·simp only[h0,h1,h2,h3,h4,h5,h6,Af]
  simp only[beq_eq_false_iff_ne] at h0 h1 h2 h3 h4 h5 h6
  rw[if_neg (by simp[h0,h4]),if_neg h1,if_neg h2,if_neg h3,if_neg h5,if_neg h6]
theorem f6 (n:Nat) (e:BM):f102 (n+4) e.kind e.len e.nums.length (AL .f32 e.nums)=some (IV e):=by
 obtain ⟨k,b,l⟩:=e
 rw[f102]
 unfold IV
 simp only[Xn (n+2)]
 have cut:∀ (lo hi:Int) (c d:Int) (v:Option Bool),f105 (n+3) k b=some (c,d) →
   (bd (some (decide (lo≤b∧b≤hi))) fun r=>br (!r) (some false) (bd (f105 (n+3) k b) fun r7=>br (((l.length:Nat):Int)==r7.1) v (some false)))=br (decide (lo≤b∧b≤hi)&&(((l.length:Nat):Int)==c)) v (some false):=by
  intro lo hi c d v h
  rw[h]
  simp only[AJ]
  cases decide (lo≤b∧b≤hi) <;>rfl
 rcases Oy k with rfl | rfl | rfl | rfl | rfl | rfl | rfl | ⟨h0,h1,h2,h3,h4,h5,h6⟩
 ·have c:=cut 0 0 1 0 (some true) (by rw[f105];rfl)
  have:=Fb b l.length 1
  rw[show ((1:Nat):Int)=1 from rfl] at this
  simp only[show ((0:Int)==2)=false from rfl,show ((0:Int)==6)=false from rfl,Af,show ((0:Int) != 6)=true from rfl,AV]
  refine c.trans ?_
  rw[this]
  show br (decide (b=0∧l.length=1)) (some true) (some false)=some (decide (b=0∧l.length=1))
  cases decide (b=0∧l.length=1) <;>rfl
 ·have c:=cut 0 0 5 2 (some true) (by rw[f105];rfl)
  have:=Fb b l.length 5
  rw[show ((5:Nat):Int)=5 from rfl] at this
  simp only[show ((1:Int)==2)=false from rfl,show ((1:Int)==6)=false from rfl,Af,show ((1:Int) != 6)=true from rfl,AV]
  refine c.trans ?_
  rw[this]
  show br (decide (b=0∧l.length=5)) (some true) (some false)=some (decide (b=0∧l.length=5))
  cases decide (b=0∧l.length=5) <;>rfl
 ·have c:=cut 1 32 2 b (some true) (by rw[f105];rfl)
  simp only[beq_self_eq_true,show ((2:Int)==6)=false from rfl,Af,show ((2:Int) != 6)=true from rfl,AV]
  refine c.trans ?_
  have e:(decide (1≤b∧b≤32)&&(((l.length:Nat):Int)==2))=decide ((1≤b∧b≤32)∧l.length=2):=by rw[Bool.eq_iff_iff];simp;omega
  rw[e,if_neg (by decide),if_neg (by decide),if_pos trivial]
  cases decide ((1≤b∧b≤32)∧l.length=2) <;>rfl
 ·have c:=cut 0 0 4 1 (some true) (by rw[f105];rfl)
  have:=Fb b l.length 4
  rw[show ((4:Nat):Int)=4 from rfl] at this
  simp only[show ((3:Int)==2)=false from rfl,show ((3:Int)==6)=false from rfl,Af,show ((3:Int) != 6)=true from rfl,AV]
  refine c.trans ?_
  rw[this]
  show br (decide (b=0∧l.length=4)) (some true) (some false)=some (decide (b=0∧l.length=4))
  cases decide (b=0∧l.length=4) <;>rfl
 ·have c:=cut 0 0 1 0 (some true) (by rw[f105];rfl)
  have:=Fb b l.length 1
  rw[show ((1:Nat):Int)=1 from rfl] at this
  simp only[show ((4:Int)==2)=false from rfl,show ((4:Int)==6)=false from rfl,Af,show ((4:Int) != 6)=true from rfl,AV]
  refine c.trans ?_
  rw[this]
  show br (decide (b=0∧l.length=1)) (some true) (some false)=some (decide (b=0∧l.length=1))
  cases decide (b=0∧l.length=1) <;>rfl
 ·have c:=cut 0 0 0 0 (some true) (by rw[f105];rfl)
  have:=Fb b l.length 0
  rw[show ((0:Nat):Int)=0 from rfl] at this
  simp only[show ((5:Int)==2)=false from rfl,show ((5:Int)==6)=false from rfl,Af,show ((5:Int) != 6)=true from rfl,AV]
  refine c.trans ?_
  rw[this]
  show br (decide (b=0∧l.length=0)) (some true) (some false)=some (decide (b=0∧l.length=0))
  cases decide (b=0∧l.length=0) <;>rfl
 ·have c:=fun v=>cut 0 32 2 (IntKind.i64.wrap (1+b)) v (by rw[f105];rfl)
  simp only[show ((6:Int)==2)=false from rfl,beq_self_eq_true,Af,show ((6:Int) != 6)=false from rfl,AV]
  refine (c _).trans ?_
  have e:(decide (0≤b∧b≤32)&&(((l.length:Nat):Int)==2))=decide ((0≤b∧b≤32)∧l.length=2):=by rw[Bool.eq_iff_iff];simp;omega
  rw[e,if_neg (by decide),if_neg (by decide),if_neg (by decide),if_neg (by decide),if_neg (by decide),if_pos trivial]
  by_cases hv:(0≤b∧b≤32)∧l.length=2
  ·rw[decide_eq_true hv,decide_eq_true (show (0:Int)≤0∧(0:Int)<((l.length:Nat):Int) by omega),BH (by omega),TW (n+1)]
   simp only[zA,AV,Ay,AJ,Cy,Bool.true_and]
  ·rw[decide_eq_false hv];rfl
 ·have hc:f105 (n+3) k b=some (-1,-1):=by
   rw[f105];simp only[h0,h1,h2,h3,h4,h5,h6,Af]
  have c:=fun v=>cut 0 0 (-1) (-1) v hc
  simp only[h2,h6,Af]
  refine (c _).trans ?_
  simp only[beq_eq_false_iff_ne] at h0 h1 h2 h3 h4 h5 h6
  rw[if_neg (by simp[h0,h4]),if_neg h1,if_neg h2,if_neg h3,if_neg h5,if_neg h6,show (((l.length:Nat):Int) == -1)=false by rw[beq_eq_false_iff_ne];omega,Bool.and_false]
  rfl
def dR (e:BM):Prop:=JS .i64 e.kind∧JS .i64 e.len∧(∀ x∈e.nums,BX x)
def FJ (cs:List BM):Bool:=decide (cs.length≤8)&&cs.all IV
theorem TL {cs:List BM} {i:Nat} (h:i<cs.length):(cs.drop i).all IV=(IV (Cg cs i)&&(cs.drop (i+1)).all IV):=by
 rw[Dl h,all_cons]
theorem Qj (n:Nat) (N:Nat) (ts:List T) (cs:List BM) (hl:cs.length≤100):∀ (j i m:Nat),i+j=cs.length→j<m →
  f88.l0 (n+4) m N ts cs.length (AH cs) (cs.length:Int) (i:Int)=some (if (cs.drop i).all IV then Sum.inr () else Sum.inl false):=by
 intro j
 induction j with
 | zero =>
   intro i m hi hm
   obtain ⟨m,rfl⟩:=zc m (by omega)
   rw[f88.l0,A8 (by omega),drop_eq_nil_of_le (by omega)];rfl
 | succ j ih =>
   intro i m hi hm
   obtain ⟨m,rfl⟩:=zc m (by omega)
   have h:i<cs.length:=by omega
   rw[f88.l0,Bf h,A1 h,zT,U5 h,TL h]
   simp only[AV,zA,Ay,kE h,gE h,nE h,lE h,ZJ n (Cg cs i),AJ,AZ (show i<9223372036854775807 by omega)]
   cases IV (Cg cs i)
   ·rfl
   ·simp only[Bool.not_true,Af,Bool.true_and]
    exact ih (i+1) m (by omega) (by omega)
theorem ar (n:Nat) (cs:List BM) (hn:100<n):f88 (n+5) cs.length (AH cs)=some (FJ cs):=by
 rw[f88]
 unfold FJ
 by_cases h:cs.length≤8
 ·have e:=Qj n cs.length (AH cs) cs (by omega) cs.length 0 (n+4) (by omega) (by omega)
  have e:f88.l0 (n+4) (n+4) cs.length (AH cs) cs.length (AH cs) (cs.length:Int) 0=_:=e
  rw[decide_eq_false (by omega),e,decide_eq_true h,drop_zero]
  cases cs.all IV <;>rfl
 ·rw[decide_eq_true (by omega),decide_eq_false h];rfl
theorem QR (n:Nat) (cs:List BM) (hl:cs.length≤8):∀ (j i m:Nat),i+j=cs.length→j<m →
  f63.l0 (n+4) m cs.length (AH cs) (i:Int)=some (if (cs.drop i).all IV then Sum.inr (cs.length,AH cs) else Sum.inl false):=by
 intro j
 induction j with
 | zero =>
   intro i m hi hm
   obtain ⟨m,rfl⟩:=zc m (by omega)
   rw[f63.l0,A8 (by omega),drop_eq_nil_of_le (by omega)];rfl
 | succ j ih =>
   intro i m hi hm
   obtain ⟨m,rfl⟩:=zc m (by omega)
   have h:i<cs.length:=by omega
   rw[f63.l0,Bf h,A1 h,zT,U5 h,TL h,decide_eq_true (show (cs.length:Int)≤8 by omega)]
   simp only[AV,zA,Ay,kE h,gE h,nE h,lE h,f6 n (Cg cs i),AJ,AZ (show i<9223372036854775807 by omega)]
   cases IV (Cg cs i)
   ·rfl
   ·simp only[Bool.not_true,Af,Bool.true_and]
    exact ih (i+1) m (by omega) (by omega)
end Go.Proofs.YtdobhipbgpiceaaGreat.D
end
