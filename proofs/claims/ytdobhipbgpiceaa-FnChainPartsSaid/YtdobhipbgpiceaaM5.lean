/- FnChainParts holds: for every input the law returns true, and its arguments read as before. -/
import Derived.Test.YtdobhipbgpiceaaChecked
import Derived.KernelRfl
import Derived.Shelf.SlicesE.Kit
import Derived.Shelf.RegionOpenPlain
import Derived.WalkKit
import Derived.Deep.LoopGhost
import Derived.Deep.RegionLaw
import Derived.Deep.MidRow
import Derived.Lib.Walk
import Derived.Sort.WalkB12
import Derived.Lib.SliceRun
import Derived.Lib.SlicesDelete
import Derived.Test.YtdobhipbgpiceaaRows
import Derived.ProofKit
import Derived.OpenShut
import Derived.ShutString
import Derived.ChangeOld
import Derived.Below
import Derived.SizedLaws
import Derived.Test.YtdobhipbgpiceaaKernC
import Derived.Test.YtdobhipbgpiceaaM5a
set_option linter.all false
set_option linter.unusedVariables false
section
namespace Go.Proofs.Ytdobhipbgpiceaa.D
open Go Go.Desk
set_option linter.unusedVariables false
theorem s_floats (n:Nat) {bs:List Int} (hb:Bytes bs) {a:Int} (h0:0≤a) (j:Nat) (h1:a+16 * (j:Int)≤1125899906841000) (hj:j≤2147483647) (hn:j<n) (sd:Int) :
  ∃ ys a' sd',ys.length=j∧(∀ x∈ys,W32 x)∧(a≤a'∧a'≤a+2+16 * (j:Int))∧f73 (n+6) bs.length (its .u8 bs) a sd (j:Int)=some (ys.length,fls .f32 ys,bs.length,its .u8 bs,a',sd'):=by
 obtain ⟨b,a1,s1,ha1,e1⟩:=s_one (n+2) hb h0 (by omega) sd 4
 obtain ⟨ys,a2,s2,hy,hw,ha2,e2⟩:=s_floats_loop n hb b j (n+5) a1 s1 [] (by omega) (by omega) (by simp;omega) (by omega) (by simp)
 rw[f73,e1]
 refine ⟨ys,a2,s2,by simpa using hy,hw,by omega,?_⟩
 have e2:f73.l0 (n+5) (n+5) bs.length (its .u8 bs) a1 s1 (j:Int) 0 (reps 0 [(T.flt FloatKind.f32 0)]) b=some (bs.length,its .u8 bs,a2,s2,ys.length,fls .f32 ys):=e2
 simp only[bd_s,e2]
theorem s_r8samples (n:Nat) {bs:List Int} (hb:Bytes bs) (k:Nat) (hk:k≤1000) (hn:k<n):∃ xs,xs.length≤k∧(∀ x∈xs,W32 x)∧f21 (n+7) bs.length (its .u8 bs) (k:Int)=some (xs.length,fls .f32 xs):=by
 obtain ⟨r,a1,s1,hr,ha1,e1⟩:=s_pick (n+4) hb (a:=0) (by omega) (by omega) 0 ((k:Int)+1)
 obtain ⟨j,rfl⟩:=Int.eq_ofNat_of_zero_le hr.1
 have hj:j≤k:=by omega
 obtain ⟨ys,a2,s2,hy,hw,ha2,e2⟩:=s_floats n hb (a:=a1) (by omega) j (by omega) (by omega) (by omega) s1
 rw[f21,s_from,show IntKind.i64.wrap ((k:Int)+1)=(k:Int)+1 by rw[wrap64] <;>omega]
 simp only[bd_s,e1,e2]
 exact ⟨ys,by omega,hw,rfl⟩
theorem l_long (n:Nat) (bs cs:List Int):f12 (n+1) bs.length (its .u8 bs) cs.length (its .u8 cs)=some (decide (48<bs.length∨48<cs.length)):=by
 rw[f12]
 by_cases h:48<bs.length
 ·rw[decide_eq_true (show (bs.length:Int)>48 by omega),decide_eq_true (Or.inl h)];rfl
 ·rw[decide_eq_false (show ¬ (bs.length:Int)>48 by omega),br_f]
  congr 1
  simp[h];omega
theorem l_at (n:Nat) {bs:List Int} (hb:Bytes bs) {i k:Int} (hi:0≤i) (hk:1≤k):∃ r,(0≤r∧r<k)∧f14 (n+1) bs.length (its .u8 bs) i k=some r:=by
 rw[f14]
 by_cases h:k≤1
 ·rw[decide_eq_true h];exact ⟨0,by omega,rfl⟩
 rw[decide_eq_false h]
 by_cases h2:i≥(bs.length:Int)
 ·rw[decide_eq_true h2];exact ⟨0,by omega,rfl⟩
 rw[decide_eq_false h2]
 obtain ⟨i,rfl⟩:=Int.eq_ofNat_of_zero_le hi
 have hi:i<bs.length:=by omega
 have hr:=hb (bs[i]) (List.getElem_mem _)
 have hk0:(!decide (k=0))=true:=by simp;omega
 simp only[br_f,in_dec hi,Int.toNat_natCast,okAt_its hi,Bool.and_self,gd_t,iAt_its,hk0]
 rw[show bs.getD i 0=bs[i] by simp[List.getD,hi],show IntKind.i64.wrap bs[i]=bs[i] by rw[wrap64] <;>omega]
 refine ⟨_,?_,rfl⟩
 rw[Int.tmod_eq_emod_of_nonneg (by omega)]
 have:=Int.emod_nonneg bs[i] (show k≠0 by omega)
 have:=Int.emod_lt_of_pos bs[i] (show 0<k by omega)
 omega
theorem i_same (n:Nat) {x y:Nat} (hx:W32 x) (hy:W32 y):f18 (n+2) x y=some (x==y):=by
 rw[f18]
 simp only[fne_nan]
 cases hn:isNaN .f32 x
 ·cases hm:isNaN .f32 y
  ·simp only[br_f]
   have e1:∀ z,isNaN .f32 z=false→xF32bits (n+1) z=some (z:Int):=fun z hz=>by simp[xF32bits,hz]
   simp only[e1 x hn,e1 y hm,bd_s,Option.some.injEq]
   rw[Bool.eq_iff_iff];simp;constructor <;>omega
  ·simp only[br_f,br_t]
   have:x≠y:=fun e=>by rw[e,hm] at hn;cases hn
   simp[this]
 ·cases hm:isNaN .f32 y
  ·simp only[br_f,br_t]
   have:x≠y:=fun e=>by rw[e,hm] at hn;cases hn
   simp[this]
  ·simp only[br_t]
   have:x=y:=by rw[← hx.2,← hy.2,canon_nan hn,canon_nan hm]
   simp[this]
theorem l_same_loop (n:Nat):∀ (zs ys p q:List Nat) (m:Nat),ys.length=zs.length→p.length=q.length→(∀ x∈zs,W32 x)→(∀ x∈ys,W32 x)→p.length+zs.length≤1048576→zs.length<m →
  f25.l0 (n+2) m (p++zs).length (fls .f32 (p++zs)) (q++ys).length (fls .f32 (q++ys)) (p.length:Int)=some (if zs=ys then .inr () else .inl false):=by
 intro zs
 induction zs with
 | nil =>
   intro ys p q m hl hpq _ _ _ hm
   obtain ⟨m,rfl⟩:∃ k,m=k+1:=⟨m - 1,by omega⟩
   obtain rfl:ys=[]:=List.length_eq_zero_iff.1 (by simpa using hl)
   rw[f25.l0,lt_end]
   rfl
 | cons z zs ih =>
   intro ys p q m hl hpq hz hy hb hm
   obtain ⟨m,rfl⟩:∃ k,m=k+1:=⟨m - 1,by omega⟩
   cases ys with
   | nil=>simp at hl
   | cons y ys =>
     rw[f25.l0,lt_mid,in_mid]
     simp only[hpq,in_mid,toNat_len,okAt_mid]
     rw[← hpq]
     simp only[okAt_mid,fAt_mid,Bool.and_self,gd_t,br_t]
     rw[hpq]
     simp only[fAt_mid]
     rw[i_same n (hz z (by simp)) (hy y (by simp)),← hpq]
     simp only[bd_s,br_not]
     cases h:z==y
     ·simp only[beq_eq_false_iff_ne,ne_eq] at h
      simp[br_f,h]
     ·simp only[beq_iff_eq] at h
      subst h
      rw[br_t,wrap_len (z:=z) (by simp at hb;omega)]
      have:=ih ys (p++[z]) (q++[z]) m (by simpa using hl) (by simp[hpq]) (fun x hx=>hz x (by simp[hx])) (fun x hx=>hy x (by simp[hx])) (by simp at hb ⊢;omega) (by simp at hm;omega)
      simpa using this
theorem l_same (n:Nat) (xs ys:List Nat) (hx:∀ x∈xs,W32 x) (hy:∀ x∈ys,W32 x) (hl:xs.length≤1048576) (hn:xs.length<n):f25 (n+3) xs.length (fls .f32 xs) ys.length (fls .f32 ys)=some (decide (xs=ys)):=by
 rw[f25]
 by_cases h:ys.length=xs.length
 ·rw[show (((xs.length:Nat):Int) != ((ys.length:Nat):Int))=false by simp[h],br_f]
  have:=l_same_loop n xs ys [] [] (n+2) h rfl hx hy (by simpa using hl) (by omega)
  simp only[List.nil_append,List.length_nil] at this
  rw[show ((0:Nat):Int)=0 from rfl] at this
  rw[this,bd_s]
  by_cases e:xs=ys
  ·rw[if_pos e,decide_eq_true e];rfl
  ·rw[if_neg e,decide_eq_false e];rfl
 ·rw[show (((xs.length:Nat):Int) != ((ys.length:Nat):Int))=true by simp;omega,decide_eq_false (fun e=>h (by rw[e]))]
  rfl
theorem i_few (n k:Nat) (l:List T):f66 (n+1) k l=some (decide ((k:Int)≤256)):=by rw[f66]
theorem i_in (n:Nat) (a b c:Int):f67 (n+1) a b c=some (decide (b≤a∧a≤c)):=by
 rw[f67]
 by_cases h:b≤a <;>simp[br,h]
theorem i_sub (n:Nat) {x:Nat} (h:x<4294967296):f189 (n+1) x=some (sub32 x):=by
 rw[f189,← sub_key h]
 cases fne .f32 x 0 <;>cases flt .f32 x 8388608 <;>rfl
theorem i_flush (n:Nat) {x:Nat} (h:W32 x):f169 (n+2) x=some (flushM x):=by
 rw[f169,i_sub n h.1,bd_s,br_not]
 have hx:=h.1
 cases hs:sub32 x
 ·rw[br_f]
  unfold sub32 at hs
  unfold flushM
  simp at hs
  split
  ·congr 1;omega
  ·rfl
 ·have hs' :=hs
  unfold sub32 at hs
  simp at hs
  have hn:isNaN .f32 x=false:=by rw[nan32];simp;omega
  obtain ⟨y,e1,e2⟩:=copy_zero n hx hn
  rw[br_t,fltToFlt_wide]
  simp only[bd_s,e1,e2]
  unfold flushM
  rw[if_pos hs.2]
theorem i_flushedq (n:Nat) {x:Nat} (b:Bool) (h:W32 x):f176 (n+3) x b=some (fl? b x):=by
 rw[f176]
 cases b
 ·rfl
 ·simp only[br_t,i_flush n h,bd_s];rfl
theorem i_fstep (n:Nat) (f:Filt) (form:Int) (b:Bool) (m:Mem) (x:Nat) (hm:WMem m) (hx:W32 x) :
  f142 (n+4) f.1 f.2.1 f.2.2.1 f.2.2.2.1 f.2.2.2.2 form b m.1 m.2.1 m.2.2.1 m.2.2.2 x =
   some ((fstep f form b m x).1,(fstep f form b m x).2.1,(fstep f form b m x).2.2.1,(fstep f form b m x).2.2.2.1,(fstep f form b m x).2.2.2.2):=by
 obtain ⟨m1,m2,m3,m4⟩:=hm
 rw[f142]
 unfold fstep
 by_cases h0:form=0
 ·simp only[h0,beq_self_eq_true,br_t,if_true,i_flushedq n b (w32_fsub _ _),bd_s,i_flushedq n b hx,i_flushedq n b m1,i_flushedq n b m3,i_flushedq n b (w32_fl? (b:=b) (w32_fsub _ _))]
 ·have h0':(form==0)=false:=by simp[h0]
  simp only[h0',br_f,if_neg h0]
  by_cases h1:form=1
  ·simp only[h1,beq_self_eq_true,br_t,if_true,i_flushedq n b (w32_fsub _ _),i_flushedq n b (w32_fadd _ _),i_flushedq n b w32_zero,bd_s]
  ·have h1':(form==1)=false:=by simp[h1]
   simp only[h1',br_f,if_neg h1,i_flushedq n b (w32_fsub _ _),bd_s,i_flushedq n b (w32_fadd _ _),i_flushedq n b (w32_fl? (b:=b) (w32_fsub _ _)),i_flushedq n b m1,i_flushedq n b w32_zero]
theorem i_frun_loop (n:Nat) (f:Filt) (form:Int) (b:Bool) (N:Nat) (cs:List T) (u:Mem):∀ (zs p acc:List Nat) (mm:Mem) (m:Nat),(∀ x∈zs,W32 x)→WMem mm→acc.length+zs.length<1048576→p.length+zs.length<1048576→zs.length<m →
  f96.l0 (n+4) m form b N cs f.1 f.2.1 f.2.2.1 f.2.2.2.1 f.2.2.2.2 mm.1 mm.2.1 mm.2.2.1 mm.2.2.2 u.1 u.2.1 u.2.2.1 u.2.2.2 acc.length (fls .f32 acc) (p++zs).length (fls .f32 (p++zs)) ((p++zs).length:Int) (p.length:Int) =
   some ((scan (fstep f form b) mm zs).2.1,(scan (fstep f form b) mm zs).2.2.1,(scan (fstep f form b) mm zs).2.2.2.1,(scan (fstep f form b) mm zs).2.2.2.2,u.1,u.2.1,u.2.2.1,u.2.2.2,(acc++(scan (fstep f form b) mm zs).1).length,fls .f32 (acc++(scan (fstep f form b) mm zs).1)):=by
 intro zs
 induction zs with
 | nil =>
   intro p acc mm m _ _ _ _ hm
   obtain ⟨m,rfl⟩:∃ k,m=k+1:=⟨m - 1,by omega⟩
   rw[f96.l0,lt_end]
   simp[br_f,scan]
 | cons z zs ih =>
   intro p acc mm m hz hmm ha hp hm
   obtain ⟨m,rfl⟩:∃ k,m=k+1:=⟨m - 1,by omega⟩
   have hp':p.length<1048576:=by simp at hp;omega
   have ha':acc.length<1048576:=by simp at ha;omega
   have hw:=hz z (by simp)
   rw[f96.l0,lt_mid,in_mid,toNat_len,okAt_mid,fAt_mid]
   simp only[br_t,gd_t,Bool.and_self,i_fstep n f form b mm z hmm hw,bd_s,push_ok (show acc.length<2147483648 by omega),push_fls,wrap_len (z:=z) (show p.length<4611686018427387904 by omega)]
   have:=ih (p++[z]) (acc++[(fstep f form b mm z).1]) (fstep f form b mm z).2 m (fun x hx=>hz x (by simp[hx])) (fstep_w32 hmm hw).2 (by simp at ha ⊢;omega) (by simp at hp ⊢;omega) (by simp at hm;omega)
   simpa [scan] using this
theorem i_frun (n:Nat) (f:Filt) (form:Int) (b:Bool) (mm:Mem) (xs:List Nat) (hx:∀ x∈xs,W32 x) (hm:WMem mm) (hl:xs.length<1048576) (hn:xs.length<n) :
  f96 (n+5) f.1 f.2.1 f.2.2.1 f.2.2.2.1 f.2.2.2.2 form b mm.1 mm.2.1 mm.2.2.1 mm.2.2.2 xs.length (fls .f32 xs) =
   some ((scan (fstep f form b) mm xs).1.length,fls .f32 (scan (fstep f form b) mm xs).1,(scan (fstep f form b) mm xs).2.1,(scan (fstep f form b) mm xs).2.2.1,(scan (fstep f form b) mm xs).2.2.2.1,(scan (fstep f form b) mm xs).2.2.2.2):=by
 rw[f96]
 have e:=i_frun_loop n f form b xs.length (fls .f32 xs) (0,0,0,0) xs [] [] mm (n+4) hx hm (by simpa using hl) (by simpa using hl) (by omega)
 have e:f96.l0 (n+4) (n+4) form b xs.length (fls .f32 xs) f.1 f.2.1 f.2.2.1 f.2.2.2.1 f.2.2.2.2 mm.1 mm.2.1 mm.2.2.1 mm.2.2.2 0 0 0 0 0 [] xs.length (fls .f32 xs) (xs.length:Int) 0=_:=e
 rw[e];rfl
theorem s_fnumber (n:Nat) {bs:List Int} (hb:Bytes bs) {a:Int} (h0:0≤a) (h1:a≤1125899906842500) (sd:Int) :
  ∃ x a' sd',W32 x∧(a≤a'∧a'≤a+20)∧f141 (n+6) bs.length (its .u8 bs) a sd=some (x,bs.length,its .u8 bs,a',sd'):=by
 obtain ⟨b,a1,s1,ha1,e1⟩:=s_one (n+2) hb h0 (by omega) sd 8
 rw[f141,e1]
 simp only[bd_s]
 cases b
 ·obtain ⟨c,a2,s2,ha2,e2⟩:=s_one (n+2) hb (a:=a1) (by omega) (by omega) s1 3
  simp only[br_f,e2,bd_s]
  cases c
  ·obtain ⟨r,a3,s3,hr,ha3,e3⟩:=s_pick (n+3) hb (a:=a2) (by omega) (by omega) s2 33
   simp only[br_f,e3,bd_s]
   exact ⟨_,a3,s3,w32_fdiv _ _,by omega,rfl⟩
  ·exact ⟨0,a2,s2,w32_zero,by omega,rfl⟩
 ·obtain ⟨x,a2,s2,hx,ha2,e2⟩:=s_float n hb (a:=a1) (by omega) (by omega) s1
  simp only[br_t,e2,bd_s]
  exact ⟨x,a2,s2,hx,by omega,rfl⟩
theorem s_filter (n:Nat) {bs:List Int} (hb:Bytes bs) {a:Int} (h0:0≤a) (h1:a≤1125899906842000) (sd:Int) :
  ∃ (f:Filt) (a' sd':Int),(W32 f.1∧W32 f.2.1∧W32 f.2.2.1∧W32 f.2.2.2.1∧W32 f.2.2.2.2)∧(a≤a'∧a'≤a+200)∧f93 (n+7) bs.length (its .u8 bs) a sd=some (f.1,f.2.1,f.2.2.1,f.2.2.2.1,f.2.2.2.2,bs.length,its .u8 bs,a',sd'):=by
 obtain ⟨x1,a1,s1,w1,ha1,e1⟩:=s_fnumber n hb h0 (by omega) sd
 obtain ⟨x2,a2,s2,w2,ha2,e2⟩:=s_fnumber n hb (a:=a1) (by omega) (by omega) s1
 obtain ⟨x3,a3,s3,w3,ha3,e3⟩:=s_fnumber n hb (a:=a2) (by omega) (by omega) s2
 obtain ⟨r4,a4,s4,-,ha4,e4⟩:=s_pick (n+4) hb (a:=a3) (by omega) (by omega) s3 15
 obtain ⟨r5,a5,s5,-,ha5,e5⟩:=s_pick (n+4) hb (a:=a4) (by omega) (by omega) s4 7
 obtain ⟨b6,a6,s6,ha6,e6⟩:=s_one (n+3) hb (a:=a5) (by omega) (by omega) s5 4
 rw[f93,e1]
 simp only[bd_s,e2,e3,e4,e5,e6]
 cases b6
 ·obtain ⟨b7,a7,s7,ha7,e7⟩:=s_one (n+3) hb (a:=a6) (by omega) (by omega) s6 4
  simp only[br_f,e7,bd_s]
  cases b7
  ·exact ⟨(x1,x2,x3,_,_),a7,s7,⟨w1,w2,w3,w32_fdiv _ _,w32_fdiv _ _⟩,by omega,rfl⟩
  ·obtain ⟨x8,a8,s8,w8,ha8,e8⟩:=s_fnumber n hb (a:=a7) (by omega) (by omega) s7
   simp only[br_t,e8,bd_s]
   exact ⟨(x1,x2,x3,_,x8),a8,s8,⟨w1,w2,w3,w32_fdiv _ _,w8⟩,by omega,rfl⟩
 ·obtain ⟨x7,a7,s7,w7,ha7,e7⟩:=s_fnumber n hb (a:=a6) (by omega) (by omega) s6
  obtain ⟨b8,a8,s8,ha8,e8⟩:=s_one (n+3) hb (a:=a7) (by omega) (by omega) s7 4
  simp only[br_t,e7,e8,bd_s]
  cases b8
  ·exact ⟨(x1,x2,x3,x7,_),a8,s8,⟨w1,w2,w3,w7,w32_fdiv _ _⟩,by omega,rfl⟩
  ·obtain ⟨x9,a9,s9,w9,ha9,e9⟩:=s_fnumber n hb (a:=a8) (by omega) (by omega) s8
   simp only[br_t,e9,bd_s]
   exact ⟨(x1,x2,x3,x7,x9),a9,s9,⟨w1,w2,w3,w7,w9⟩,by omega,rfl⟩
theorem i_zeroed (n k:Nat) (h:k≤2147483648):f91 (n+1) (k:Int)=some (k,fls .f32 (List.replicate k 0)):=by
 rw[f91,decide_eq_true (show (0:Int)≤(k:Int)∧(k:Int)≤2147483648 by omega),gd_t,Int.toNat_natCast,reps_fls]
theorem i_copy (n:Nat) (xs:List Nat) (h:xs.length≤2147483648):f84 (n+1) xs.length (fls .f32 xs)=some (xs.length,fls .f32 xs):=by
 rw[f84,Nat.zero_add,le_ble h];rfl
theorem i_taken (n:Nat) (w:Nat) (ws:List Nat) (x:Nat) (h:ws.length<2147483648):f168 (n+2) (w::ws).length (fls .f32 (w::ws)) x=some ((ws++[x]).length,fls .f32 (ws++[x])):=by
 rw[f168,decide_eq_true (by simp;omega:(0:Int)≤1∧(1:Int)≤((w::ws).length:Int)∧((w::ws).length:Int)≤((w::ws).length:Int)),fls_drop,fls_take]
 rw[show (w::ws).length - 1=ws.length by simp,show ((w::ws).drop 1).take ws.length=ws by simp,i_copy n ws (by omega)]
 simp only[gd_t,bd_s,push_ok h,push_fls]
 rw[push_len (z:=x)]
theorem i_finite (n:Nat) (x:Nat):f174 (n+1) x=some (fin32 x):=by rw[f174,sub_finite]
theorem i_mix_loop (n:Nat):∀ (zs ys p q acc:List Nat) (m:Nat),ys.length=zs.length→q.length=p.length→acc.length+zs.length<1048576→p.length+zs.length<1048576→zs.length<m →
  f79.l0 n m (p++zs).length (fls .f32 (p++zs)) (q++ys).length (fls .f32 (q++ys)) acc.length (fls .f32 acc) ((p++zs).length:Int) (p.length:Int)=some ((acc++List.zipWith (fadd .f32) zs ys).length,fls .f32 (acc++List.zipWith (fadd .f32) zs ys)):=by
 intro zs
 induction zs with
 | nil =>
   intro ys p q acc m _ _ _ _ hm
   obtain ⟨m,rfl⟩:∃ k,m=k+1:=⟨m - 1,by omega⟩
   rw[f79.l0,lt_end]
   simp[br_f]
 | cons z zs ih =>
   intro ys p q acc m hl hq ha hp hm
   obtain ⟨m,rfl⟩:∃ k,m=k+1:=⟨m - 1,by omega⟩
   cases ys with
   | nil=>simp at hl
   | cons y ys =>
     have e1:okAt [.flt .f32] (fls .f32 (q++y::ys)) p.length=true:=by rw[← hq];exact okAt_mid
     have e2:fAt (fls .f32 (q++y::ys)) p.length=y:=by rw[← hq];exact fAt_mid
     have e3:decide ((0:Int)≤(p.length:Int)∧(p.length:Int)<((q++y::ys).length:Int))=true:=by rw[← hq];exact in_mid
     have ha':acc.length<1048576:=by simp at ha;omega
     rw[f79.l0,lt_mid,in_mid,toNat_len,okAt_mid,fAt_mid,e1,e2,e3,push_fls,push_ok (show acc.length<2147483648 by omega)]
     have:=ih ys (p++[z]) (q++[y]) (acc++[fadd .f32 z y]) m (by simpa using hl) (by simp[hq]) (by simp at ha ⊢;omega) (by simp at hp ⊢;omega) (by simp at hm;omega)
     simp only[br_t,gd_t,Bool.and_self,wrap_len (z:=z) (show p.length<4611686018427387904 by simp at hp;omega)]
     simpa using this
theorem i_mixed (n:Nat) (xs ys:List Nat) (hl:ys.length=xs.length) (hx:xs.length≤256) (hn:xs.length<n):f79 (n+1) xs.length (fls .f32 xs) ys.length (fls .f32 ys)=some ((List.zipWith (fadd .f32) xs ys).length,fls .f32 (List.zipWith (fadd .f32) xs ys),true):=by
 obtain ⟨n,rfl⟩:∃ k,n=k+1:=⟨n - 1,by omega⟩
 rw[f79,i_few,decide_eq_true (show (xs.length:Int)≤256 by omega),show (((xs.length:Nat):Int) != ((ys.length:Nat):Int))=false by simp[hl]]
 have e:=i_mix_loop (n+1) xs ys [] [] [] (n+1) hl rfl (by simp;omega) (by simp;omega) (by omega)
 have e:f79.l0 (n+1) (n+1) xs.length (fls .f32 xs) ys.length (fls .f32 ys) 0 [] (xs.length:Int) 0=some ((List.zipWith (fadd .f32) xs ys).length,fls .f32 (List.zipWith (fadd .f32) xs ys)):=e
 simp only[bd_s,br_not,br_t,br_f,e]
theorem i_scale_loop (n:Nat) (N:Nat) (cs:List T) (by_:Nat):∀ (zs p acc:List Nat) (m:Nat),acc.length+zs.length<1048576→p.length+zs.length<1048576→zs.length<m →
  f167.l0 n m N cs by_ acc.length (fls .f32 acc) (p++zs).length (fls .f32 (p++zs)) ((p++zs).length:Int) (p.length:Int)=some ((acc++zs.map fun z=>fmul .f32 z by_).length,fls .f32 (acc++zs.map fun z=>fmul .f32 z by_)):=by
 intro zs
 induction zs with
 | nil =>
   intro p acc m _ _ hm
   obtain ⟨m,rfl⟩:∃ k,m=k+1:=⟨m - 1,by omega⟩
   rw[f167.l0,lt_end]
   simp[br_f]
 | cons z zs ih =>
   intro p acc m ha hp hm
   obtain ⟨m,rfl⟩:∃ k,m=k+1:=⟨m - 1,by omega⟩
   have ha':acc.length<1048576:=by simp at ha;omega
   rw[f167.l0,lt_mid,in_mid,toNat_len,okAt_mid,fAt_mid]
   have:=ih (p++[z]) (acc++[fmul .f32 z by_]) m (by simp at ha ⊢;omega) (by simp at hp ⊢;omega) (by simp at hm;omega)
   simp only[br_t,gd_t,Bool.and_self,push_fls,push_ok (show acc.length<2147483648 by omega),wrap_len (z:=z) (show p.length<4611686018427387904 by simp at hp;omega)]
   simpa using this
theorem i_scaledq (n:Nat) (xs:List Nat) (by_:Nat) (hx:xs.length<1048576) (hn:xs.length<n):f167 (n+1) xs.length (fls .f32 xs) by_=some ((xs.map fun z=>fmul .f32 z by_).length,fls .f32 (xs.map fun z=>fmul .f32 z by_)):=by
 rw[f167]
 have e:=i_scale_loop n xs.length (fls .f32 xs) by_ xs [] [] n (by simpa using hx) (by simpa using hx) (by omega)
 have e:f167.l0 n n xs.length (fls .f32 xs) by_ 0 [] xs.length (fls .f32 xs) (xs.length:Int) 0=some ((xs.map fun z=>fmul .f32 z by_).length,fls .f32 (xs.map fun z=>fmul .f32 z by_)):=e
 rw[e];rfl
theorem i_absolute (n:Nat) {x:Nat} (hg:W32 x):f204 (n+2) x=some (size32 x):=by
 obtain ⟨h1,h2⟩:=abs_size hg.1 hg.2 n
 rw[f204,fltToFlt_wide]
 simp only[bd,h1,h2]
def peakM (m:Nat) (xs:List Nat):Nat:=xs.foldl (fun m x=>if fgt .f32 (size32 x) m then size32 x else m) m
theorem i_peak_loop (n:Nat) (N:Nat) (cs:List T):∀ (zs p:List Nat) (mx m:Nat),(∀ x∈zs,W32 x)→p.length+zs.length<1048576→zs.length<m →
  f193.l0 (n+2) m N cs mx (p++zs).length (fls .f32 (p++zs)) ((p++zs).length:Int) (p.length:Int)=some (peakM mx zs):=by
 intro zs
 induction zs with
 | nil =>
   intro p mx m _ _ hm
   obtain ⟨m,rfl⟩:∃ k,m=k+1:=⟨m - 1,by omega⟩
   rw[f193.l0,lt_end];rfl
 | cons z zs ih =>
   intro p mx m hz hp hm
   obtain ⟨m,rfl⟩:∃ k,m=k+1:=⟨m - 1,by omega⟩
   have ih' :=fun mx=>ih (p++[z]) mx m (fun x hx=>hz x (by simp[hx])) (by simp at hp ⊢;omega) (by simp at hm;omega)
   simp only[List.append_assoc,List.cons_append,List.nil_append] at ih'
   rw[f193.l0,lt_mid,in_mid,toNat_len,okAt_mid,fAt_mid]
   simp only[br_t,gd_t,Bool.and_self,i_absolute n (hz z (by simp)),bd_s,wrap_len (z:=z) (show p.length<4611686018427387904 by simp at hp;omega)]
   show _=some (peakM (if fgt .f32 (size32 z) mx then size32 z else mx) zs)
   cases fgt .f32 (size32 z) mx
   ·exact ih' mx
   ·exact ih' _
theorem i_peak (n:Nat) (xs:List Nat) (hx:∀ x∈xs,W32 x) (hl:xs.length<1048576) (hn:xs.length<n):f193 (n+3) xs.length (fls .f32 xs)=some (peakM 0 xs):=by
 rw[f193]
 have e:=i_peak_loop n xs.length (fls .f32 xs) xs [] 0 (n+2) hx (by simpa using hl) (by omega)
 have e:f193.l0 (n+2) (n+2) xs.length (fls .f32 xs) 0 xs.length (fls .f32 xs) (xs.length:Int) 0=some (peakM 0 xs):=e
 rw[e];rfl
theorem i_fol (n:Nat) (a r:Nat) {l x:Nat} (hx:W32 x):f202 (n+3) a r l x=some (a,r,levelM a r l x):=by
 rw[f202,i_absolute n hx]
 unfold levelM
 simp only[bd_s,i_flush n (w32_fadd _ _)]
 cases fgt .f32 (size32 x) l <;>rfl
theorem i_gain (n l t q:Nat):f203 (n+1) l t q=some (gainM l t q):=by
 rw[f203]
 unfold gainM
 cases fgt .f32 l t <;>rfl
theorem i_duck_loop (n:Nat) (a r t q u1 u2 u3 u4 u5:Nat) (M:Nat) (cs:List T):∀ (zs ys p s acc:List Nat) (l m:Nat),ys.length=zs.length→s.length=p.length→(∀ x∈ys,W32 x)→acc.length+zs.length<1048576→p.length+zs.length<1048576→zs.length<m →
  f191.l0 (n+3) m M cs (s++ys).length (fls .f32 (s++ys)) a r l t q u1 u2 u3 u4 u5 acc.length (fls .f32 acc) (p++zs).length (fls .f32 (p++zs)) ((p++zs).length:Int) (p.length:Int) =
   some (a,r,(scan (duckStep a r t q) l (zs.zip ys)).2,t,q,u1,u2,u3,u4,u5,(acc++(scan (duckStep a r t q) l (zs.zip ys)).1).length,fls .f32 (acc++(scan (duckStep a r t q) l (zs.zip ys)).1)):=by
 intro zs
 induction zs with
 | nil =>
   intro ys p s acc l m _ _ _ _ _ hm
   obtain ⟨m,rfl⟩:∃ k,m=k+1:=⟨m - 1,by omega⟩
   rw[f191.l0,lt_end];simp[br_f,scan]
 | cons z zs ih =>
   intro ys p s acc l m hl hs hy ha hp hm
   obtain ⟨m,rfl⟩:∃ k,m=k+1:=⟨m - 1,by omega⟩
   cases ys with
   | nil=>simp at hl
   | cons y ys =>
     have e1:okAt [.flt .f32] (fls .f32 (s++y::ys)) p.length=true:=by rw[← hs];exact okAt_mid
     have e2:fAt (fls .f32 (s++y::ys)) p.length=y:=by rw[← hs];exact fAt_mid
     have e3:decide ((0:Int)≤(p.length:Int)∧(p.length:Int)<((s++y::ys).length:Int))=true:=by rw[← hs];exact in_mid
     have ha':acc.length<1048576:=by simp at ha;omega
     rw[f191.l0,lt_mid,in_mid,toNat_len,okAt_mid,fAt_mid,e1,e2,e3]
     simp only[br_t,gd_t,Bool.and_self,i_fol n a r (hy y (by simp)),i_gain (n+2),bd_s,push_ok (show acc.length<2147483648 by omega),push_fls,wrap_len (z:=z) (show p.length<4611686018427387904 by simp at hp;omega)]
     have:=ih ys (p++[z]) (s++[y]) (acc++[fmul .f32 z (gainM (levelM a r l y) t q)]) (levelM a r l y) m (by simpa using hl) (by simp[hs]) (fun x hx=>hy x (by simp[hx])) (by simp at ha ⊢;omega) (by simp at hp ⊢;omega) (by simp at hm;omega)
     simpa [scan,duckStep] using this
theorem i_duck (n:Nat) (a r l t q:Nat) (xs ys:List Nat) (hy:∀ x∈ys,W32 x) (hlen:ys.length=xs.length) (hl:xs.length≤256) (hn:xs.length<n) :
  f191 (n+4) a r l t q xs.length (fls .f32 xs) ys.length (fls .f32 ys)=some ((scan (duckStep a r t q) l (xs.zip ys)).1.length,fls .f32 (scan (duckStep a r t q) l (xs.zip ys)).1,a,r,(scan (duckStep a r t q) l (xs.zip ys)).2,t,q,true):=by
 rw[f191,i_few,decide_eq_true (show (xs.length:Int)≤256 by omega),show (((ys.length:Nat):Int) != ((xs.length:Nat):Int))=false by simp[hlen]]
 have e:=i_duck_loop n a r t q 0 0 0 0 0 xs.length (fls .f32 xs) xs ys [] [] [] l (n+3) hlen rfl hy (by simp;omega) (by simp;omega) (by omega)
 have e:f191.l0 (n+3) (n+3) xs.length (fls .f32 xs) ys.length (fls .f32 ys) a r l t q 0 0 0 0 0 0 [] xs.length (fls .f32 xs) (xs.length:Int) 0=_:=e
 simp only[bd_s,br_not,br_t,br_f,e];rfl
theorem i_runsqueeze (n:Nat) (a r l t q:Nat) (xs:List Nat) (hx:∀ x∈xs,W32 x) (hl:xs.length≤256) (hn:xs.length<n) :
  f170 (n+5) a r l t q xs.length (fls .f32 xs)=some ((scan (duckStep a r t q) l (xs.zip xs)).1.length,fls .f32 (scan (duckStep a r t q) l (xs.zip xs)).1,a,r,(scan (duckStep a r t q) l (xs.zip xs)).2,t,q,true):=by
 rw[f170]
 simp only[i_duck n a r l t q xs xs hx rfl hl hn,bd_s]
def clipM (lim x:Nat):Nat:=if fgt .f32 (size32 x) lim then (if flt .f32 x 0 then negF .f32 lim else lim) else x
def limT (lim p:Nat):Nat:=if fgt .f32 p lim then fdiv .f32 lim p else 1065353216
def limG (t gn:Nat):Nat:=if flt .f32 t gn then t else if fne .f32 gn gn then t else gn
def limStep (lim rise:Nat) (s:Nat × List Nat) (x:Nat):Nat × (Nat × List Nat) :=
 (clipM lim (fmul .f32 ((s.2++[x]).getD 0 0) (limG (limT lim (peakM 0 (s.2++[x]))) (fadd .f32 s.1 rise))),(limG (limT lim (peakM 0 (s.2++[x]))) (fadd .f32 s.1 rise),(s.2++[x]).drop 1))
theorem w32_clip {lim x:Nat} (hl:W32 lim) (hx:W32 x):W32 (clipM lim x):=by
 unfold clipM
 split
 ·split
  ·exact w32_negF hl
  ·exact hl
 ·exact hx
theorem w32_one:W32 1065353216:=⟨by decide,by decide⟩
theorem w32_limG {t gn:Nat} (ht:W32 t) (hg:W32 gn):W32 (limG t gn):=by
 unfold limG
 split
 ·exact ht
 ·split
  ·exact ht
  ·exact hg
theorem w32_limT {lim p:Nat}:W32 (limT lim p):=by
 unfold limT
 split
 ·exact w32_fdiv _ _
 ·exact w32_one
theorem lim_length (lim rise:Nat):∀ (xs:List Nat) (s:Nat × List Nat),(scan (limStep lim rise) s xs).2.2.length=s.2.length:=by
 intro xs
 induction xs with
 | nil=>intro s;rfl
 | cons x xs ih =>
   intro s
   simp only[scan]
   rw[ih]
   simp[limStep]
theorem i_clip (n:Nat) (lim:Nat) {x:Nat} (hx:W32 x):f192 (n+3) x lim=some (clipM lim x):=by
 rw[f192,i_absolute n hx]
 simp only[bd_s,br_not]
 unfold clipM
 cases fgt .f32 (size32 x) lim <;>cases flt .f32 x 0 <;>rfl
theorem i_lim_loop (n:Nat) (N:Nat) (cs:List T) (lim rise x8 x9 x10 n11:Nat) (l12:List T) (hl:W32 lim):∀ (zs p acc:List Nat) (s:Nat × List Nat) (m:Nat),(∀ x∈zs,W32 x)→(W32 s.1∧AllW s.2)→s.2.length≤64→acc.length+zs.length<1048576→p.length+zs.length<1048576→zs.length<m →
  f173.l0 (n+100) m N cs lim rise s.1 s.2.length (fls .f32 s.2) x8 x9 x10 n11 l12 acc.length (fls .f32 acc) (p++zs).length (fls .f32 (p++zs)) ((p++zs).length:Int) (p.length:Int) =
   some (lim,rise,(scan (limStep lim rise) s zs).2.1,(scan (limStep lim rise) s zs).2.2.length,fls .f32 (scan (limStep lim rise) s zs).2.2,x8,x9,x10,n11,l12,(acc++(scan (limStep lim rise) s zs).1).length,fls .f32 (acc++(scan (limStep lim rise) s zs).1)):=by
 intro zs
 induction zs with
 | nil =>
   intro p acc s m _ _ _ _ _ hm
   obtain ⟨m,rfl⟩:∃ k,m=k+1:=⟨m - 1,by omega⟩
   rw[f173.l0,lt_end]
   simp[br_f,scan]
 | cons z zs ih =>
   intro p acc s m hz hs hw ha hp hm
   obtain ⟨m,rfl⟩:∃ k,m=k+1:=⟨m - 1,by omega⟩
   have hp':p.length<1048576:=by simp at hp;omega
   have ha':acc.length<1048576:=by simp at ha;omega
   have hall:AllW (s.2++[z]):=fun y hy=>by
    simp only[List.mem_append,List.mem_singleton] at hy
    rcases hy with h | rfl
    ·exact hs.2 y h
    ·exact hz _ (by simp)
   have hpk:=i_peak (n+97) (s.2++[z]) hall (by simp;omega) (by simp;omega)
   have hlen:s.2.length+1=(s.2++[z]).length:=by simp
   have c1:decide ((0:Int)≤1∧(1:Int)≤((s.2++[z]).length:Int)∧((s.2++[z]).length:Int)≤((s.2++[z]).length:Int))=true:=decide_eq_true (by simp;omega)
   have c2:((fls .f32 (s.2++[z])).drop 1).take ((s.2++[z]).length - 1)=fls .f32 ((s.2++[z]).drop 1):=by
    rw[fls_drop,fls_take,List.take_of_length_le (by simp)]
   have c3:decide ((0:Int)≤0∧(0:Int)<((s.2++[z]).length:Int))=true:=decide_eq_true (by simp)
   have c4:okAt [.flt .f32] (fls .f32 (s.2++[z])) 0=true:=okAt_fls (by simp)
   have c5:(s.2++[z]).length - 1=((s.2++[z]).drop 1).length:=by simp
   rw[c5] at c2
   have c6:Nat.ble (s.2++[z]).length 2147483648=true:=le_ble (by simp;omega)
   have ih' :=ih (p++[z]) (acc++[(limStep lim rise s z).1]) (limStep lim rise s z).2 m (fun x hx=>hz x (by simp[hx]))
    ⟨w32_limG w32_limT (w32_fadd _ _),fun y hy=>hall y (List.mem_of_mem_drop hy)⟩ (by simp[limStep];omega) (by simp at ha ⊢;omega) (by simp at hp ⊢;omega) (by simp at hm;omega)
   rw[show p++[z]++zs=p++z::zs by simp] at ih'
   rw[f173.l0,lt_mid,in_mid,toNat_len,okAt_mid,fAt_mid]
   simp only[br_t,gd_t,Bool.and_self,i_copy (n+99) s.2 (by omega),bd_s,push_fls,hlen,hpk,c1,c2,c3,c4,fAt_fls,c6,i_clip (n+97) lim (w32_fmul _ _),push_ok (show acc.length<2147483648 by omega),wrap_len (z:=z) (show p.length<4611686018427387904 by omega),c5]
   have e1:scan (limStep lim rise) s (z::zs)=((limStep lim rise s z).1::(scan (limStep lim rise) (limStep lim rise s z).2 zs).1,(scan (limStep lim rise) (limStep lim rise s z).2 zs).2):=rfl
   rw[e1]
   have e2:∀ t gn,limT lim (peakM 0 (s.2++[z]))=t→fadd .f32 s.1 rise=gn→∀ g,limG t gn=g→limStep lim rise s z=(clipM lim (fmul .f32 ((s.2++[z]).getD 0 0) g),(g,(s.2++[z]).drop 1)):=by
    rintro t gn rfl rfl g rfl
    rfl
   have e3:acc++(limStep lim rise s z).1::(scan (limStep lim rise) (limStep lim rise s z).2 zs).1=(acc++[(limStep lim rise s z).1])++(scan (limStep lim rise) (limStep lim rise s z).2 zs).1:=by simp
   have e4:(acc++[(limStep lim rise s z).1]).length=acc.length+1:=by simp
   simp only[e3]
   rw[e4] at ih'
   cases hc:fgt .f32 (peakM 0 (s.2++[z])) lim
   ·have ht:limT lim (peakM 0 (s.2++[z]))=1065353216:=by unfold limT;simp[hc]
    cases h1:flt .f32 1065353216 (fadd .f32 s.1 rise)
    ·cases h2:fne .f32 (fadd .f32 s.1 rise) (fadd .f32 s.1 rise)
     ·have e:=e2 _ _ ht rfl (fadd .f32 s.1 rise) (by unfold limG;simp[h1,h2])
      rw[e] at ih' ⊢
      exact ih'
     ·have e:=e2 _ _ ht rfl 1065353216 (by unfold limG;simp[h1,h2])
      rw[e] at ih' ⊢
      exact ih'
    ·have e:=e2 _ _ ht rfl 1065353216 (by unfold limG;simp[h1])
     rw[e] at ih' ⊢
     exact ih'
   ·have ht:limT lim (peakM 0 (s.2++[z]))=fdiv .f32 lim (peakM 0 (s.2++[z])):=by unfold limT;simp[hc]
    cases h1:flt .f32 (fdiv .f32 lim (peakM 0 (s.2++[z]))) (fadd .f32 s.1 rise)
    ·cases h2:fne .f32 (fadd .f32 s.1 rise) (fadd .f32 s.1 rise)
     ·have e:=e2 _ _ ht rfl (fadd .f32 s.1 rise) (by unfold limG;simp[h1,h2])
      rw[e] at ih' ⊢
      exact ih'
     ·have e:=e2 _ _ ht rfl (fdiv .f32 lim (peakM 0 (s.2++[z]))) (by unfold limG;simp[h1,h2])
      rw[e] at ih' ⊢
      exact ih'
    ·have e:=e2 _ _ ht rfl (fdiv .f32 lim (peakM 0 (s.2++[z]))) (by unfold limG;simp[h1])
     rw[e] at ih' ⊢
     exact ih'
theorem i_islimit (n:Nat) (lim:Nat):f137 (n+2) lim=some (fin32 lim&&fgt .f32 lim 0):=by
 rw[f137,i_finite]
 cases fin32 lim <;>rfl
theorem i_runlimiter (n:Nat) (lim rise g:Nat) (w xs:List Nat) (hl:W32 lim) (hlim:(fin32 lim&&fgt .f32 lim 0)=true) (hg:W32 g) (hw:AllW w) (hwl:w.length≤64) (hx:∀ x∈xs,W32 x) (hxl:xs.length≤256) (hn:300<n) :
  f173 (n+101) lim rise g w.length (fls .f32 w) xs.length (fls .f32 xs) =
   some ((scan (limStep lim rise) (g,w) xs).1.length,fls .f32 (scan (limStep lim rise) (g,w) xs).1,lim,rise,(scan (limStep lim rise) (g,w) xs).2.1,(scan (limStep lim rise) (g,w) xs).2.2.length,fls .f32 (scan (limStep lim rise) (g,w) xs).2.2,true):=by
 have e:=i_lim_loop n xs.length (fls .f32 xs) lim rise 0 0 0 0 [] hl xs [] [] (g,w) (n+100) hx ⟨hg,hw⟩ hwl (by simp;omega) (by simp;omega) (by omega)
 have e:f173.l0 (n+100) (n+100) xs.length (fls .f32 xs) lim rise g w.length (fls .f32 w) 0 0 0 0 [] 0 [] xs.length (fls .f32 xs) (xs.length:Int) 0=_:=e
 have hlen:=lim_length lim rise xs (g,w)
 rw[f173,i_islimit,hlim,i_few,i_copy (n+99) w (by omega),decide_eq_false (show ¬ (w.length:Int)>64 by omega),decide_eq_true (show (xs.length:Int)≤256 by omega)]
 simp only[bd_s,br_not,br_t,br_f,e,i_copy (n+99) (scan (limStep lim rise) (g,w) xs).2.2 (by simp at hlen;omega),List.nil_append]
theorem i_clips_loop (n:Nat) (N:Nat) (cs:List T) (lim:Nat):∀ (zs p acc:List Nat) (m:Nat),(∀ x∈zs,W32 x)→acc.length+zs.length<1048576→p.length+zs.length<1048576→zs.length<m →
  f171.l0 (n+3) m N cs lim acc.length (fls .f32 acc) (p++zs).length (fls .f32 (p++zs)) ((p++zs).length:Int) (p.length:Int)=some ((acc++zs.map (clipM lim)).length,fls .f32 (acc++zs.map (clipM lim))):=by
 intro zs
 induction zs with
 | nil =>
   intro p acc m _ _ _ hm
   obtain ⟨m,rfl⟩:∃ k,m=k+1:=⟨m - 1,by omega⟩
   rw[f171.l0,lt_end];simp[br_f]
 | cons z zs ih =>
   intro p acc m hz ha hp hm
   obtain ⟨m,rfl⟩:∃ k,m=k+1:=⟨m - 1,by omega⟩
   have ha':acc.length<1048576:=by simp at ha;omega
   rw[f171.l0,lt_mid,in_mid,toNat_len,okAt_mid,fAt_mid]
   simp only[br_t,gd_t,Bool.and_self,i_clip n lim (hz z (by simp)),bd_s,push_ok (show acc.length<2147483648 by omega),push_fls,wrap_len (z:=z) (show p.length<4611686018427387904 by simp at hp;omega)]
   have:=ih (p++[z]) (acc++[clipM lim z]) m (fun x hx=>hz x (by simp[hx])) (by simp at ha ⊢;omega) (by simp at hp ⊢;omega) (by simp at hm;omega)
   simpa using this
theorem i_clips (n:Nat) (lim:Nat) (xs:List Nat) (hx:∀ x∈xs,W32 x) (hl:xs.length≤256) (hn:xs.length<n):f171 (n+4) xs.length (fls .f32 xs) lim=some (xs.length,fls .f32 (xs.map (clipM lim)),true):=by
 have e:=i_clips_loop n xs.length (fls .f32 xs) lim xs [] [] (n+3) hx (by simp;omega) (by simp;omega) (by omega)
 have e:f171.l0 (n+3) (n+3) xs.length (fls .f32 xs) lim 0 [] xs.length (fls .f32 xs) (xs.length:Int) 0=_:=e
 rw[f171,i_few,decide_eq_true (show (xs.length:Int)≤256 by omega)]
 simp only[bd_s,br_not,br_t,e,List.nil_append,List.length_map]
structure Eff where
 kind:Int
 len:Int
 nums:List Nat
def effC (e:Eff):List T:=[.int .i64 e.kind,.int .i64 e.len,.lst e.nums.length (fls .f32 e.nums)]
def effs (es:List Eff):List T:=es.flatMap effC
def eAt (es:List Eff) (i:Nat):Eff:=es.getD i ⟨5,0,[]⟩
theorem eff_get {c:Nat} (hc:c<3):∀ (ts:List Eff) (i:Nat),i<ts.length→(effs ts)[i * 3+c]?=(effC (eAt ts i))[c]?
 | [],i,h=>by simp at h
 | t::ts,0,_=>by
   show (effC t++effs ts)[0 * 3+c]?=_
   rw[List.getElem?_append_left (by simp[effC];omega),Nat.zero_mul,Nat.zero_add];rfl
 | t::ts,i+1,h=>by
   show (effC t++effs ts)[(i+1) * 3+c]?=_
   rw[List.getElem?_append_right (by simp[effC];omega),show (i+1) * 3+c - (effC t).length=i * 3+c by simp[effC];omega,eff_get hc ts i (by simpa using h)]
   rfl
section
variable {ts:List Eff} {i:Nat} (h:i<ts.length)
include h
theorem okE:okAt [.int .i64,.int .i64,.lst] (effs ts) (i * 3+0)=true:=by
 have h0:=eff_get (c:=0) (by decide) ts i h
 have h1:=eff_get (c:=1) (by decide) ts i h
 have h2:=eff_get (c:=2) (by decide) ts i h
 simp only[effC,List.getElem?_cons_zero,List.getElem?_cons_succ] at h0 h1 h2
 rw[Nat.add_zero] at h0
 simp[okAt,Nat.add_assoc,h0,h1,h2,isCK]
theorem kE:iAt (effs ts) (i * 3+0)=(eAt ts i).kind:=by unfold iAt;rw[eff_get (c:=0) (by decide) ts i h];rfl
theorem gE:iAt (effs ts) (i * 3+0+1)=(eAt ts i).len:=by unfold iAt;rw[show i * 3+0+1=i * 3+1 from rfl,eff_get (c:=1) (by decide) ts i h];rfl
theorem nE:nAt (effs ts) (i * 3+0+1+1)=(eAt ts i).nums.length:=by unfold nAt;rw[show i * 3+0+1+1=i * 3+2 from rfl,eff_get (c:=2) (by decide) ts i h];rfl
theorem lE:lAt (effs ts) (i * 3+0+1+1)=fls .f32 (eAt ts i).nums:=by unfold lAt;rw[show i * 3+0+1+1=i * 3+2 from rfl,eff_get (c:=2) (by decide) ts i h];rfl
theorem eff_drop:ts.drop i=eAt ts i::ts.drop (i+1):=by
 rw[List.drop_eq_getElem_cons h]
 simp[eAt,List.getD,h]
theorem eAt_mem:eAt ts i∈ts:=by
 have:eAt ts i=ts[i]:=by simp[eAt,List.getD,h]
 rw[this];exact List.getElem_mem h
end
theorem push_eff (acc:List Eff) (e:Eff):effs acc++setN (reps 1 [(T.int .i64 (0:Int)),(T.int .i64 (0:Int)),(T.lst 0 [])]) 0 (effC e)=effs (acc++[e]):=by
 unfold effs
 rw[List.flatMap_append,List.flatMap_singleton];rfl
theorem s_share (n:Nat) {bs:List Int} (hb:Bytes bs) {a:Int} (h0:0≤a) (h1:a≤1125899906842500) (sd:Int) :
  ∃ x a' sd',W32 x∧(a≤a'∧a'≤a+20)∧f165 (n+6) bs.length (its .u8 bs) a sd=some (x,bs.length,its .u8 bs,a',sd'):=by
 obtain ⟨b,a1,s1,ha1,e1⟩:=s_one (n+2) hb h0 (by omega) sd 10
 obtain ⟨x,a2,s2,hx,ha2,e2⟩:=s_float n hb (a:=a1) (by omega) (by omega) s1
 obtain ⟨r,a3,s3,-,ha3,e3⟩:=s_pick (n+3) hb (a:=a1) (by omega) (by omega) s1 17
 rw[f165,e1]
 cases b
 ·simp only[bd_s,br_f,e3]
  exact ⟨_,a3,s3,w32_fdiv _ _,by omega,rfl⟩
 ·simp only[bd_s,br_t,e2]
  exact ⟨x,a2,s2,hx,by omega,rfl⟩
theorem s_follow (n:Nat) {bs:List Int} (hb:Bytes bs) {a:Int} (h0:0≤a) (h1:a≤1125899906842300) (sd:Int) :
  ∃ x y z a' sd',(W32 x∧W32 y∧W32 z)∧(a≤a'∧a'≤a+80)∧f188 (n+7) bs.length (its .u8 bs) a sd=some (x,y,z,bs.length,its .u8 bs,a',sd'):=by
 obtain ⟨x,a1,s1,hx,ha1,e1⟩:=s_share n hb h0 (by omega) sd
 obtain ⟨y,a2,s2,hy,ha2,e2⟩:=s_share n hb (a:=a1) (by omega) (by omega) s1
 obtain ⟨b,a3,s3,ha3,e3⟩:=s_one (n+3) hb (a:=a2) (by omega) (by omega) s2 2
 obtain ⟨z,a4,s4,hz,ha4,e4⟩:=s_float (n+1) hb (a:=a3) (by omega) (by omega) s3
 rw[f188,e1]
 cases b
 ·simp only[bd_s,e2,e3,br_f]
  exact ⟨x,y,0,a3,s3,⟨hx,hy,w32_zero⟩,by omega,rfl⟩
 ·simp only[bd_s,e2,e3,br_t,e4]
  exact ⟨x,y,z,a4,s4,⟨hx,hy,hz⟩,by omega,rfl⟩
inductive Ef
 | scale (g:Nat)
 | filt (f1 f2 f3 f4 f5:Nat)
 | echo (L:Nat) (p q:Nat)
 | squeeze (p q r s:Nat)
 | clip (g:Nat)
 | bend
 | lim (A:Nat) (l:Nat) (r:Nat)
def limW (k:Nat):Nat:=fdiv .f32 (FloatKind.f32.nearest (1+(k:Int))) 1098907648
theorem lim_tab:∀ k:Nat,k<16→(fin32 (limW k)&&fgt .f32 (limW k) 0)=true:=by decide +kernel
def Ef.eff:Ef→Eff
 | .scale g=>⟨0,0,[g]⟩
 | .filt a b c d e=>⟨1,0,[a,b,c,d,e]⟩
 | .echo L p q=>⟨2,(L:Int),[p,q]⟩
 | .squeeze p q r s=>⟨3,0,[p,q,r,s]⟩
 | .clip g=>⟨4,0,[g]⟩
 | .bend=>⟨5,0,[]⟩
 | .lim A l r=>⟨6,(A:Int),[l,r]⟩
def Ef.Ok:Ef→Prop
 | .echo L _ _=>1≤L∧L≤32
 | .lim A l _=>A≤32∧W32 l∧(fin32 l&&fgt .f32 l 0)=true
 | .clip g=>W32 g
 | _=>True
theorem s_drawsq (n:Nat) {bs:List Int} (hb:Bytes bs) {a:Int} (h0:0≤a) (h1:a≤1125899906842000) (sd:Int) :
  ∃ p q x r s a' sd',(a≤a'∧a'≤a+200)∧f166 (n+8) bs.length (its .u8 bs) a sd=some (p,q,x,r,s,bs.length,its .u8 bs,a',sd'):=by
 obtain ⟨x,y,z,a1,s1,-,ha1,e1⟩:=s_follow n hb h0 (by omega) sd
 obtain ⟨w,a2,s2,-,ha2,e2⟩:=s_share (n+1) hb (a:=a1) (by omega) (by omega) s1
 obtain ⟨r,a3,s3,-,ha3,e3⟩:=s_pick (n+5) hb (a:=a2) (by omega) (by omega) s2 8
 obtain ⟨b,a4,s4,ha4,e4⟩:=s_one (n+4) hb (a:=a3) (by omega) (by omega) s3 10
 obtain ⟨v,a5,s5,-,ha5,e5⟩:=s_float (n+2) hb (a:=a4) (by omega) (by omega) s4
 rw[f166,e1]
 cases b
 ·simp only[bd_s,e2,e3,e4,br_f]
  exact ⟨x,y,z,w,_,a4,s4,by omega,rfl⟩
 ·simp only[bd_s,e2,e3,e4,br_t,e5]
  exact ⟨x,y,z,w,v,a5,s5,by omega,rfl⟩
theorem s_effect (n:Nat) {bs:List Int} (hb:Bytes bs) {a:Int} (h0:0≤a) (h1:a≤1125899906840000) (sd:Int) :
  ∃ (e:Ef) (a' sd':Int),e.Ok∧(a≤a'∧a'≤a+400)∧f132 (n+9) bs.length (its .u8 bs) a sd=some (e.eff.kind,e.eff.len,e.eff.nums.length,fls .f32 e.eff.nums,bs.length,its .u8 bs,a',sd'):=by
 obtain ⟨k,a1,s1,hk,ha1,e1⟩:=s_pick (n+6) hb h0 (by omega) sd 7
 have hk7:=hk.2.1 (by omega)
 have hk0:=hk.1
 obtain ⟨x,a2,s2,hx,ha2,e2⟩:=s_share (n+2) hb (a:=a1) (by omega) (by omega) s1
 obtain ⟨f,a3,s3,-,ha3,e3⟩:=s_filter (n+1) hb (a:=a1) (by omega) (by omega) s1
 obtain ⟨p,q,y,r,s,a4,s4,ha4,e4⟩:=s_drawsq n hb (a:=a1) (by omega) (by omega) s1
 obtain ⟨L,b1,t1,hL,hb1,g1⟩:=s_pick (n+6) hb (a:=a1) (by omega) (by omega) s1 5
 obtain ⟨L,rfl⟩:=Int.eq_ofNat_of_zero_le hL.1
 have hL5:=hL.2.1 (by omega)
 obtain ⟨u,b2,t2,-,hb2,g2⟩:=s_share (n+2) hb (a:=b1) (by omega) (by omega) t1
 obtain ⟨v,b3,t3,-,hb3,g3⟩:=s_share (n+2) hb (a:=b2) (by omega) (by omega) t2
 obtain ⟨m,c2,v2,hm,hc2,d2⟩:=s_pick (n+6) hb (a:=b1) (by omega) (by omega) t1 16
 obtain ⟨m,rfl⟩:=Int.eq_ofNat_of_zero_le hm.1
 have hm16:=hm.2.1 (by omega)
 obtain ⟨w,c3,v3,-,hc3,d3⟩:=s_share (n+2) hb (a:=c2) (by omega) (by omega) v2
 have w1:IntKind.i64.wrap ((1:Int)+(L:Int))=((L+1:Nat):Int):=by rw[wrap64] <;>omega
 have w2:IntKind.i64.wrap ((1:Int)+(m:Int))=1+(m:Int):=by rw[wrap64] <;>omega
 rw[f132,e1]
 rcases (show k=0∨k=1∨k=2∨k=3∨k=4∨k=5∨k=6 by omega) with rfl | rfl | rfl | rfl | rfl | rfl | rfl
 ·simp only[bd_s,beq_self_eq_true,br_t,e2]
  exact ⟨.scale x,a2,s2,trivial,by omega,rfl⟩
 ·simp only[bd_s,show ((1:Int)==0)=false from rfl,show ((1:Int)==4)=false from rfl,show ((1:Int)==1)=true from rfl,br_t,br_f,e3]
  exact ⟨.filt _ _ _ _ _,a3,s3,trivial,by omega,rfl⟩
 ·simp only[bd_s,show ((2:Int)==0)=false from rfl,show ((2:Int)==4)=false from rfl,show ((2:Int)==1)=false from rfl,show ((2:Int)==2)=true from rfl,br_t,br_f,g1,w1,g2,g3]
  exact ⟨.echo (L+1) u v,b3,t3,⟨by omega,by omega⟩,by omega,rfl⟩
 ·simp only[bd_s,show ((3:Int)==0)=false from rfl,show ((3:Int)==4)=false from rfl,show ((3:Int)==1)=false from rfl,show ((3:Int)==2)=false from rfl,show ((3:Int)==3)=true from rfl,br_t,br_f,e4]
  exact ⟨.squeeze p q r s,a4,s4,trivial,by omega,rfl⟩
 ·simp only[bd_s,show ((4:Int)==0)=false from rfl,show ((4:Int)==4)=true from rfl,br_t,br_f,e2]
  exact ⟨.clip x,a2,s2,hx,by omega,rfl⟩
 ·simp only[bd_s,show ((5:Int)==0)=false from rfl,show ((5:Int)==4)=false from rfl,show ((5:Int)==1)=false from rfl,show ((5:Int)==2)=false from rfl,show ((5:Int)==3)=false from rfl,show ((5:Int)==6)=false from rfl,br_f]
  exact ⟨.bend,a1,s1,trivial,by omega,rfl⟩
 ·simp only[bd_s,show ((6:Int)==0)=false from rfl,show ((6:Int)==4)=false from rfl,show ((6:Int)==1)=false from rfl,show ((6:Int)==2)=false from rfl,show ((6:Int)==3)=false from rfl,show ((6:Int)==6)=true from rfl,br_t,br_f,g1,d2,w2,d3]
  exact ⟨.lim L (limW m) w,c3,v3,⟨by omega,w32_fdiv _ _,lim_tab m (by omega)⟩,by omega,rfl⟩
def effL (es:List Ef):List Eff:=es.map (·.eff)
theorem s_chain_loop (n:Nat) {bs:List Int} (hb:Bytes bs):∀ (j m:Nat) (a sd:Int) (acc:List Ef),0≤a→a+1000 * (j:Int)≤1125899906830000→acc.length+j≤1000→j<m→(∀ e∈acc,e.Ok) →
  ∃ (es:List Ef) (a' sd':Int),es.length=acc.length+j∧(∀ e∈es,e.Ok)∧f71.l0 (n+9) m bs.length (its .u8 bs) a sd acc.length (effs (effL acc)) (j:Int)=some (bs.length,its .u8 bs,a',sd',es.length,effs (effL es)):=by
 intro j
 induction j with
 | zero =>
   intro m a sd acc _ _ _ hm hw
   obtain ⟨m,rfl⟩:∃ k,m=k+1:=⟨m - 1,by omega⟩
   rw[f71.l0]
   exact ⟨acc,a,sd,by omega,hw,rfl⟩
 | succ j ih =>
   intro m a sd acc h0 h1 hl hm hw
   obtain ⟨m,rfl⟩:∃ k,m=k+1:=⟨m - 1,by omega⟩
   obtain ⟨e,a1,s1,he,ha1,e1⟩:=s_effect n hb h0 (by omega) sd
   rw[f71.l0,decide_eq_true (show (((j+1:Nat):Int)>0) by omega),show IntKind.i64.wrap (((j+1:Nat):Int) - 1)=(j:Int) by rw[wrap64] <;>omega]
   obtain ⟨es,a2,s2,q1,q2,q3⟩:=ih m a1 s1 (acc++[e]) (by omega) (by omega) (by simp;omega) (by omega) (by
    intro x hx;simp only[List.mem_append,List.mem_singleton] at hx
    rcases hx with hx | rfl
    ·exact hw x hx
    ·exact he)
   refine ⟨es,a2,s2,by simp at q1;omega,q2,?_⟩
   have hp:=push_eff (effL acc) e.eff
   have hq:effL acc++[e.eff]=effL (acc++[e]):=by simp[effL]
   rw[hq] at hp
   unfold effC at hp
   simp only[br_t,e1,bd_s,push_ok (show acc.length<2147483648 by omega),gd_t]
   rw[hp,push_len (z:=e)]
   exact q3
theorem s_chain (n:Nat) {bs:List Int} (hb:Bytes bs) (hn:100<n):∃ es:List Ef,es.length≤8∧(∀ e∈es,e.Ok)∧f19 (n+11) bs.length (its .u8 bs)=some (es.length,effs (effL es)):=by
 obtain ⟨k,a1,s1,hk,ha1,e1⟩:=s_pick (n+7) hb (a:=0) (by omega) (by omega) 0 5
 obtain ⟨k,rfl⟩:=Int.eq_ofNat_of_zero_le hk.1
 have hk5:=hk.2.1 (by omega)
 obtain ⟨b,a2,s2,ha2,e2⟩:=s_one (n+6) hb (a:=a1) (by omega) (by omega) s1 24
 obtain ⟨es,a3,s3,q1,q2,q3⟩:=s_chain_loop n hb k (n+9) a2 s2 [] (by omega) (by omega) (by simp;omega) (by omega) (by simp)
 obtain ⟨fs,a4,s4,r1,r2,r3⟩:=s_chain_loop n hb 8 (n+9) a2 s2 [] (by omega) (by omega) (by simp) (by omega) (by simp)
 have q3:f71.l0 (n+9) (n+9) bs.length (its .u8 bs) a2 s2 0 (reps 0 [(T.int .i64 (0:Int)),(T.int .i64 (0:Int)),(T.lst 0 [])]) (k:Int)=_:=q3
 have r3:f71.l0 (n+9) (n+9) bs.length (its .u8 bs) a2 s2 0 (reps 0 [(T.int .i64 (0:Int)),(T.int .i64 (0:Int)),(T.lst 0 [])]) 8=_:=r3
 rw[f19,s_from]
 simp only[bd_s]
 rw[f71,e1]
 cases b
 ·simp only[bd_s,e2,br_f,q3]
  exact ⟨es,by simp at q1;omega,q2,rfl⟩
 ·simp only[bd_s,e2,br_t,r3]
  exact ⟨fs,by simp at r1;omega,r2,rfl⟩
def row (ls:List (List Nat)) (i:Nat):List Nat:=ls.getD i []
section
variable {ls:List (List Nat)} {i:Nat} (h:i<ls.length)
include h
theorem row_get:(ls.map rwF)[i]?=some (rwF (row ls i)):=by simp[row,List.getD,h]
theorem okR:okAt [.lst] (ls.map rwF) i=true:=by simp[okAt,row_get h,isCK,rwF]
theorem nR:nAt (ls.map rwF) i=(row ls i).length:=by unfold nAt;rw[row_get h];rfl
theorem lR:lAt (ls.map rwF) i=fls .f32 (row ls i):=by unfold lAt;rw[row_get h];rfl
theorem bleR:Nat.ble (i+1) (ls.map rwF).length=true:=by rw[Nat.ble_eq];simp;omega
theorem row_drop:ls.drop i=row ls i::ls.drop (i+1):=by
 rw[List.drop_eq_getElem_cons h]
 simp[row,List.getD,h]
end
theorem set_rw {ls:List (List Nat)} {i:Nat} {r:List Nat}:setN (ls.map rwF) i [T.lst r.length (fls .f32 r)]=(ls.set i r).map rwF:=by
 rw[setN_one,List.map_set];rfl
theorem push_rw (P:List (List Nat)) (r:List Nat):P.map rwF++setN (reps 1 [(T.lst 0 [])]) 0 [T.lst r.length (fls .f32 r)]=(P++[r]).map rwF:=by
 rw[List.map_append];rfl
theorem row_set {ls:List (List Nat)} {i j:Nat} {r:List Nat} (hj:j<ls.length):row (ls.set i r) j=if i=j then r else row ls j:=by
 unfold row
 by_cases h:i=j
 ·subst h;simp[List.getD,hj]
 ·simp[List.getD,h,List.getElem?_set_ne]
def Ef.keep:Ef→Nat
 | .scale _=>0
 | .filt .. =>2
 | .echo L _ _=>L
 | .squeeze .. =>1
 | .clip _=>0
 | .bend=>0
 | .lim A _ _=>A+1
def efAt (es:List Ef) (i:Nat):Ef:=es.getD i .bend
theorem effL_at {es:List Ef} {i:Nat} (h:i<es.length):eAt (effL es) i=(efAt es i).eff:=by simp[eAt,effL,efAt,List.getD,h]
theorem ef_drop {es:List Ef} {i:Nat} (h:i<es.length):es.drop i=efAt es i::es.drop (i+1):=by
 rw[List.drop_eq_getElem_cons h]
 simp[efAt,List.getD,h]
theorem efAt_mem {es:List Ef} {i:Nat} (h:i<es.length):efAt es i∈es:=by
 have:efAt es i=es[i]:=by simp[efAt,List.getD,h]
 rw[this];exact List.getElem_mem h
theorem effL_length (es:List Ef):(effL es).length=es.length:=by simp[effL]
theorem s_counts (n:Nat) {e:Ef} (h:e.Ok):∃ c:Int,f133 (n+1) e.eff.kind e.eff.len=some (c,((e.keep:Nat):Int)):=by
 rw[f133]
 cases e with
 | scale g=>exact ⟨_,rfl⟩
 | filt _ _ _ _ _=>exact ⟨_,rfl⟩
 | echo L p q=>exact ⟨_,rfl⟩
 | squeeze _ _ _ _=>exact ⟨_,rfl⟩
 | clip g=>exact ⟨_,rfl⟩
 | bend=>exact ⟨_,rfl⟩
 | lim A k r =>
   have hA:A≤32:=h.1
   have w:IntKind.i64.wrap ((1:Int)+(A:Int))=((A+1:Nat):Int):=by rw[wrap64] <;>omega
   refine ⟨2,?_⟩
   have e:(Ef.lim A k r).eff.len=(A:Int):=rfl
   rw[e,w]
   rfl
theorem setN_fls {k:FloatKind} {L:List Nat} {i v:Nat}:setN (fls k L) i [T.flt k v]=fls k (L.set i v):=by
 rw[setN_one];simp[fls,List.map_set]
def newRow:Ef→List Nat
 | .lim A k r=>(List.replicate (Ef.lim A k r).keep 0).set 0 1065353216
 | e=>List.replicate e.keep 0
theorem new_facts (e:Ef):((e.eff.kind==6)=false∧newRow e=List.replicate e.keep 0)∨((e.eff.kind==6)=true∧newRow e=(List.replicate e.keep 0).set 0 1065353216∧1≤e.keep):=by
 cases e with
 | lim A k r=>exact .inr ⟨rfl,rfl,by show 1≤A+1;omega⟩
 | scale g=>exact .inl ⟨rfl,rfl⟩
 | filt _ _ _ _ _=>exact .inl ⟨rfl,rfl⟩
 | echo L p q=>exact .inl ⟨rfl,rfl⟩
 | squeeze _ _ _ _=>exact .inl ⟨rfl,rfl⟩
 | clip g=>exact .inl ⟨rfl,rfl⟩
 | bend=>exact .inl ⟨rfl,rfl⟩
theorem newRow_length (e:Ef):(newRow e).length=e.keep:=by
 rcases new_facts e with ⟨-,h⟩ | ⟨-,h,-⟩ <;>rw[h] <;>simp
theorem keep_le {e:Ef} (h:e.Ok):e.keep≤33:=by
 cases e with
 | lim A k r=>have hA:A≤32:=h.1;show A+1≤33;omega
 | echo L p q=>have h2:L≤32:=h.2;show L≤33;omega
 | scale g=>show 0≤33;omega
 | filt _ _ _ _ _=>show 2≤33;omega
 | squeeze _ _ _ _=>show 1≤33;omega
 | clip g=>show 0≤33;omega
 | bend=>show 0≤33;omega
theorem s_new_loop (n:Nat) (es:List Ef) (hl:es.length≤100) (hok:∀ e∈es,e.Ok):∀ (j i m:Nat) (P:List (List Nat)),i+j=es.length→P.length≤i→j<m →
  f72.l0 (n+1) m es.length (effs (effL es)) P.length (P.map rwF) (i:Int)=some ((P++(es.drop i).map newRow).length,(P++(es.drop i).map newRow).map rwF):=by
 intro j
 induction j with
 | zero =>
   intro i m P hi hP hm
   obtain ⟨m,rfl⟩:∃ k,m=k+1:=⟨m - 1,by omega⟩
   rw[f72.l0,nlt_dec (by omega),List.drop_eq_nil_of_le (by omega)]
   simp[br]
 | succ j ih =>
   intro i m P hi hP hm
   obtain ⟨m,rfl⟩:∃ k,m=k+1:=⟨m - 1,by omega⟩
   have h:i<es.length:=by omega
   have he:i<(effL es).length:=by rw[effL_length];exact h
   have hE:=hok _ (efAt_mem h)
   have hd:=ef_drop h
   have hk5:=keep_le hE
   rw[f72.l0,lt_dec h,in_dec h,Int.toNat_natCast,okE he,kE he,gE he,effL_at h,hd]
   generalize efAt es i=e at hE hk5
   obtain ⟨c,hc⟩:=s_counts n hE
   have step:=ih (i+1) m (P++[newRow e]) (by omega) (by simp;omega) (by omega)
   have hg:decide ((0:Int)≤((e.keep:Nat):Int)∧((e.keep:Nat):Int)≤(2147483648:Int))=true:=decide_eq_true (by omega)
   have hpush:=push_rw P (newRow e)
   rw[newRow_length] at hpush
   rcases new_facts e with ⟨h6,hr⟩ | ⟨h6,hr,hk⟩
   ·rw[hr] at hpush
    simp only[br_t,br_f,Bool.and_self,gd_t,hc,bd_s,hg,Int.toNat_natCast,reps_fls,h6,push_ok (show P.length<2147483648 by omega),wrap_succ (show i<9223372036854775807 by omega)]
    rw[hpush,← hr,push_len (z:=newRow e),step]
    simp
   ·have hg2:decide ((0:Int)≤0∧(0:Int)<((e.keep:Nat):Int))=true:=decide_eq_true (by omega)
    have hb:Nat.ble 1 (fls .f32 (List.replicate e.keep 0)).length=true:=by rw[Nat.ble_eq];simp[fls];omega
    rw[hr] at hpush
    simp only[br_t,br_f,Bool.and_self,gd_t,hc,bd_s,hg,Int.toNat_natCast,reps_fls,h6,hg2,hb,setN_fls,push_ok (show P.length<2147483648 by omega),wrap_succ (show i<9223372036854775807 by omega)]
    rw[hpush,← hr,push_len (z:=newRow e),step]
    simp
def Sok (es:List Ef) (ls:List (List Nat)):Prop:=ls.length=es.length∧∀ i,i<ls.length→(row ls i).length=(efAt es i).keep∧(∀ y∈row ls i,W32 y)
theorem Sok.set {es:List Ef} {ls:List (List Nat)} (h:Sok es ls) {i:Nat} {r:List Nat} (hi:i<ls.length) (hr:r.length=(efAt es i).keep) (hw:∀ y∈r,W32 y):Sok es (ls.set i r):=by
 refine ⟨by rw[List.length_set];exact h.1,fun j hj => ?_⟩
 rw[List.length_set] at hj
 rw[row_set hj]
 by_cases e:i=j
 ·subst e;rw[if_pos rfl];exact ⟨hr,hw⟩
 ·rw[if_neg e];exact h.2 j hj
theorem new_ok (es:List Ef):Sok es (es.map newRow):=by
 refine ⟨by simp,fun i hi => ?_⟩
 have h:i<es.length:=by simpa using hi
 have e:row (es.map newRow) i=newRow (efAt es i):=by simp[row,efAt,List.getD,h]
 rw[e]
 refine ⟨newRow_length _,fun y hy => ?_⟩
 rcases new_facts (efAt es i) with ⟨-,hr⟩ | ⟨-,hr,-⟩
 ·rw[hr] at hy
  obtain ⟨-,rfl⟩:=List.mem_replicate.1 hy
  exact w32_zero
 ·rw[hr] at hy
  rcases List.mem_or_eq_of_mem_set hy with h' | rfl
  ·obtain ⟨-,rfl⟩:=List.mem_replicate.1 h'
   exact w32_zero
  ·exact w32_one
theorem s_state_loop (n:Nat) {bs:List Int} (hb:Bytes bs) (hn:100<n) (es:List Ef) (hl:es.length≤100) (hok:∀ e∈es,e.Ok):∀ (j i m:Nat) (a sd:Int) (ls:List (List Nat)),i+j=es.length→0≤a→a+1000 * (j:Int)≤1125899906830000→Sok es ls→j<m →
  ∃ ls',Sok es ls'∧f20.l0 (n+6) m bs.length (its .u8 bs) a sd es.length (ls.map rwF) (i:Int)=some (es.length,ls'.map rwF):=by
 intro j
 induction j with
 | zero =>
   intro i m a sd ls hi _ _ hs hm
   obtain ⟨m,rfl⟩:∃ k,m=k+1:=⟨m - 1,by omega⟩
   refine ⟨ls,hs,?_⟩
   rw[f20.l0,nlt_dec (by omega)];rfl
 | succ j ih =>
   intro i m a sd ls hi h0 h1 hs hm
   obtain ⟨m,rfl⟩:∃ k,m=k+1:=⟨m - 1,by omega⟩
   have h:i<es.length:=by omega
   have hil:i<ls.length:=by rw[hs.1];exact h
   have hk:=keep_le (hok _ (efAt_mem h))
   obtain ⟨hrl,-⟩:=hs.2 i hil
   obtain ⟨ys,a1,s1,hy,hyw,ha,e1⟩:=s_floats n hb h0 (row ls i).length (by omega) (by omega) (by omega) sd
   obtain ⟨ls',q1,q2⟩:=ih (i+1) m a1 s1 (ls.set i ys) (by omega) (by omega) (by omega) (hs.set hil (by omega) hyw) (by omega)
   refine ⟨ls',q1,?_⟩
   rw[f20.l0,lt_dec h,in_dec h,Int.toNat_natCast,okR hil,nR hil,e1]
   simp only[br_t,gd_t,bd_s,bleR hil,set_rw,wrap_succ (show i<9223372036854775807 by omega)]
   exact q2
theorem s_state (n:Nat) {bs:List Int} (hb:Bytes bs) (hn:200<n) (es:List Ef) (hl:es.length≤100) (hok:∀ e∈es,e.Ok):∃ ls,Sok es ls∧f20 (n+7) bs.length (its .u8 bs) es.length (effs (effL es))=some (ls.length,ls.map rwF):=by
 have e1:=s_new_loop (n+4) es hl hok es.length 0 (n+5) [] (by omega) (by simp) (by omega)
 simp only[List.drop_zero,List.nil_append] at e1
 rw[List.length_map] at e1
 have e1:f72.l0 (n+5) (n+5) es.length (effs (effL es)) 0 (reps 0 [(T.lst 0 [])]) 0=_:=e1
 obtain ⟨ls,q1,q2⟩:=s_state_loop n hb (by omega) es hl hok es.length 0 (n+6) 0 0 (es.map newRow) (by omega) (by omega) (by omega) (new_ok es) (by omega)
 have q2:f20.l0 (n+6) (n+6) bs.length (its .u8 bs) 0 0 es.length ((es.map newRow).map rwF) 0=_:=q2
 refine ⟨ls,q1,?_⟩
 rw[f20,s_from]
 simp only[bd_s]
 rw[f72,e1]
 simp only[bd_s,q2,q1.1]
theorem i_has (n:Nat) (a b:Int) (c:Nat) (l:List T) (lo hi k:Int) (h:lo≤b∧b≤hi) (hk:(c:Int)=k):f136 (n+2) a b c l lo hi k=some true:=by
 rw[f136,i_in,decide_eq_true h]
 simp only[bd_s,br_t,hk,beq_self_eq_true]
theorem i_limit (n:Nat) {l:Nat} (h:(fin32 l&&fgt .f32 l 0)=true):f137 (n+2) l=some true:=by rw[i_islimit,h]
theorem i_valideffect (n:Nat) {e:Ef} (h:e.Ok):f76 (n+4) e.eff.kind e.eff.len e.eff.nums.length (fls .f32 e.eff.nums)=some true:=by
 rw[f76]
 cases e with
 | scale g =>
   have:=i_has (n+1) 0 0 1 (fls .f32 [g]) 0 0 1 (by omega) (by omega)
   simp only[Ef.eff,beq_self_eq_true,br_t,List.length_cons,List.length_nil,Nat.zero_add,this,bd_s]
 | filt a b c d f =>
   have:=i_has (n+1) 1 0 5 (fls .f32 [a,b,c,d,f]) 0 0 5 (by omega) (by omega)
   simp only[Ef.eff,show ((1:Int)==0)=false from rfl,show ((1:Int)==4)=false from rfl,beq_self_eq_true,br_t,br_f,List.length_cons,List.length_nil,Nat.zero_add,Nat.reduceAdd,this,bd_s]
 | echo L p q =>
   have hL:1≤L∧L≤32:=h
   have:=i_has (n+1) 2 (L:Int) 2 (fls .f32 [p,q]) 1 32 2 (by omega) (by omega)
   simp only[Ef.eff,show ((2:Int)==0)=false from rfl,show ((2:Int)==4)=false from rfl,show ((2:Int)==1)=false from rfl,beq_self_eq_true,br_t,br_f,List.length_cons,List.length_nil,Nat.zero_add,Nat.reduceAdd,this,bd_s]
 | squeeze a b c d =>
   have:=i_has (n+1) 3 0 4 (fls .f32 [a,b,c,d]) 0 0 4 (by omega) (by omega)
   simp only[Ef.eff,show ((3:Int)==0)=false from rfl,show ((3:Int)==4)=false from rfl,show ((3:Int)==1)=false from rfl,show ((3:Int)==2)=false from rfl,beq_self_eq_true,br_t,br_f,List.length_cons,List.length_nil,Nat.zero_add,Nat.reduceAdd,this,bd_s]
 | clip g =>
   have:=i_has (n+1) 4 0 1 (fls .f32 [g]) 0 0 1 (by omega) (by omega)
   simp only[Ef.eff,show ((4:Int)==0)=false from rfl,beq_self_eq_true,br_t,br_f,List.length_cons,List.length_nil,Nat.zero_add,this,bd_s]
 | bend =>
   have:=i_has (n+1) 5 0 0 (fls .f32 []) 0 0 0 (by omega) (by omega)
   simp only[Ef.eff,show ((5:Int)==0)=false from rfl,show ((5:Int)==4)=false from rfl,show ((5:Int)==1)=false from rfl,show ((5:Int)==2)=false from rfl,show ((5:Int)==3)=false from rfl,beq_self_eq_true,br_t,br_f,List.length_nil,this,bd_s]
 | lim A k r =>
   have hA:A≤32∧W32 k∧_:=h
   have:=i_has (n+1) 6 (A:Int) 2 (fls .f32 [k,r]) 0 32 2 (by omega) (by omega)
   have g1:decide ((0:Int)≤0∧(0:Int)<((2:Nat):Int))=true:=rfl
   have g2:okAt [.flt .f32] (fls .f32 [k,r]) 0=true:=rfl
   have g3:fAt (fls .f32 [k,r]) 0=k:=rfl
   simp only[Ef.eff,show ((6:Int)==0)=false from rfl,show ((6:Int)==4)=false from rfl,show ((6:Int)==1)=false from rfl,show ((6:Int)==2)=false from rfl,show ((6:Int)==3)=false from rfl,show ((6:Int)==5)=false from rfl,beq_self_eq_true,br_t,br_f,List.length_cons,List.length_nil,Nat.zero_add,Nat.reduceAdd,this,bd_s,g1,g2,g3,Bool.and_self,gd_t,i_limit (n+1) hA.2.2]
theorem i_valid_loop (n:Nat) (N:Nat) (cs:List T) (es:List Ef) (hl:es.length≤100) (hok:∀ e∈es,e.Ok):∀ (j i m:Nat),i+j=es.length→j<m →
  f23.l0 (n+4) m N cs es.length (effs (effL es)) (es.length:Int) (i:Int)=some (Sum.inr ()):=by
 intro j
 induction j with
 | zero =>
   intro i m hi hm
   obtain ⟨m,rfl⟩:∃ k,m=k+1:=⟨m - 1,by omega⟩
   rw[f23.l0,nlt_dec (by omega)];rfl
 | succ j ih =>
   intro i m hi hm
   obtain ⟨m,rfl⟩:∃ k,m=k+1:=⟨m - 1,by omega⟩
   have h:i<es.length:=by omega
   have he:i<(effL es).length:=by rw[effL_length];exact h
   have hv:=i_valideffect n (hok _ (efAt_mem h))
   rw[f23.l0,lt_dec h,in_dec h,Int.toNat_natCast,okE he]
   simp only[br_t,Bool.and_self,gd_t,kE he,gE he,nE he,lE he,effL_at h,hv,bd_s,Bool.not_true,br_f,wrap_succ (show i<9223372036854775807 by omega)]
   exact ih (i+1) m (by omega) (by omega)
theorem i_validchain (n:Nat) (es:List Ef) (hl:es.length≤8) (hok:∀ e∈es,e.Ok) (hn:100<n):f23 (n+5) es.length (effs (effL es))=some true:=by
 have e:=i_valid_loop n es.length (effs (effL es)) es (by omega) hok es.length 0 (n+4) (by omega) (by omega)
 have e:f23.l0 (n+4) (n+4) es.length (effs (effL es)) es.length (effs (effL es)) (es.length:Int) 0=_:=e
 rw[f23,decide_eq_false (by omega)]
 simp only[br_f,e,bd_s,sm_r]
theorem i_effectstate (n:Nat) {e:Ef} (h:e.Ok):∃ l,f77 (n+2) e.eff.kind e.eff.len e.eff.nums.length (fls .f32 e.eff.nums)=some (e.keep,l):=by
 rw[f77]
 cases e with
 | scale g=>exact ⟨_,rfl⟩
 | filt a b c d f=>exact ⟨_,rfl⟩
 | echo L p q =>
   have hL:1≤L∧L≤32:=h
   have hz:=i_zeroed n L (by omega)
   simp only[Ef.eff,show ((2:Int)==1)=false from rfl,beq_self_eq_true,br_t,br_f,hz,bd_s]
   exact ⟨_,rfl⟩
 | squeeze a b c d=>exact ⟨_,rfl⟩
 | clip g=>exact ⟨_,rfl⟩
 | bend=>exact ⟨_,rfl⟩
 | lim A k r =>
   have hA:A≤32∧W32 k∧_:=h
   have hz:=i_zeroed n A (by omega)
   have hb:Nat.ble (1+A) 2147483648=true:=by rw[Nat.ble_eq];omega
   simp only[Ef.eff,show ((6:Int)==1)=false from rfl,show ((6:Int)==2)=false from rfl,show ((6:Int)==3)=false from rfl,beq_self_eq_true,br_t,br_f,hz,bd_s,hb,gd_t]
   rw[Nat.add_comm 1 A]
   exact ⟨_,rfl⟩
theorem i_isstate_loop (n:Nat) (N N2:Nat) (cs:List T) (es:List Ef) (hl:es.length≤100) (hok:∀ e∈es,e.Ok) (ls:List (List Nat)) (hs:Sok es ls):∀ (j i m:Nat),i+j=es.length→j<m →
  f24.l0 (n+2) m N cs es.length (ls.map rwF) es.length (effs (effL es)) (es.length:Int) (i:Int)=some (Sum.inr ()):=by
 intro j
 induction j with
 | zero =>
   intro i m hi hm
   obtain ⟨m,rfl⟩:∃ k,m=k+1:=⟨m - 1,by omega⟩
   rw[f24.l0,nlt_dec (by omega)];rfl
 | succ j ih =>
   intro i m hi hm
   obtain ⟨m,rfl⟩:∃ k,m=k+1:=⟨m - 1,by omega⟩
   have h:i<es.length:=by omega
   have he:i<(effL es).length:=by rw[effL_length];exact h
   have hil:i<ls.length:=by rw[hs.1];exact h
   obtain ⟨l,hv⟩:=i_effectstate n (hok _ (efAt_mem h))
   rw[f24.l0,lt_dec h,in_dec h,Int.toNat_natCast,okE he,okR hil]
   simp only[br_t,Bool.and_self,gd_t,kE he,gE he,nE he,lE he,effL_at h,hv,bd_s,nR hil,(hs.2 i hil).1,bne_self_eq_false,br_f,wrap_succ (show i<9223372036854775807 by omega)]
   exact ih (i+1) m (by omega) (by omega)
theorem i_isstate (n:Nat) (es:List Ef) (hl:es.length≤8) (hok:∀ e∈es,e.Ok) (ls:List (List Nat)) (hs:Sok es ls) (hn:200<n):f24 (n+6) es.length (effs (effL es)) es.length (ls.map rwF)=some true:=by
 have e:=i_isstate_loop (n+3) es.length 0 (effs (effL es)) es (by omega) hok ls hs es.length 0 (n+5) (by omega) (by omega)
 have e:f24.l0 (n+5) (n+5) es.length (effs (effL es)) es.length (ls.map rwF) es.length (effs (effL es)) (es.length:Int) 0=_:=e
 rw[f24,i_validchain n es hl hok (by omega)]
 simp only[bd_s,Bool.not_true,br_f,bne_self_eq_false,e,sm_r]
def bendM (x:Nat):Nat:=if fge .f32 x 1065353216=true then 1065353216 else if fle .f32 x 3212836864=true then 3212836864 else fmul .f32 x (fsub .f32 1069547520 (fmul .f32 1056964608 (fmul .f32 x x)))
theorem i_bend (n x:Nat):f172 (n+1) x=some (bendM x):=by
 rw[f172]
 unfold bendM
 cases fge .f32 x 1065353216
 ·cases fle .f32 x 3212836864 <;>rfl
 ·rfl
theorem i_bends_loop (n:Nat) (N:Nat) (cs:List T):∀ (zs p acc:List Nat) (m:Nat),acc.length+zs.length<1048576→p.length+zs.length<1048576→zs.length<m →
  f135.l1 (n+1) m N cs acc.length (fls .f32 acc) (p++zs).length (fls .f32 (p++zs)) ((p++zs).length:Int) (p.length:Int)=some ((acc++zs.map bendM).length,fls .f32 (acc++zs.map bendM)):=by
 intro zs
 induction zs with
 | nil =>
   intro p acc m _ _ hm
   obtain ⟨m,rfl⟩:∃ k,m=k+1:=⟨m - 1,by simp at hm;omega⟩
   rw[f135.l1,lt_end];simp[br]
 | cons z zs ih =>
   intro p acc m ha hp hm
   obtain ⟨m,rfl⟩:∃ k,m=k+1:=⟨m - 1,by simp at hm;omega⟩
   have:=ih (p++[z]) (acc++[bendM z]) m (by simp at ha ⊢;omega) (by simp at hp ⊢;omega) (by simp at hm;omega)
   rw[f135.l1,lt_mid,in_mid,toNat_len,okAt_mid,fAt_mid,wrap_len (z:=z) (show p.length<4611686018427387904 by simp at hp;omega)]
   simp only[br_t,gd_t,Bool.and_self,i_bend,bd_s,push_ok (show acc.length<2147483648 by simp at ha;omega),push_fls]
   simpa using this
def echoStep (p q:Nat) (w:List Nat) (x:Nat):Nat × List Nat:=(fadd .f32 x (fmul .f32 q (headM w)),tookM w (flushM (fadd .f32 x (fmul .f32 p (headM w)))))
theorem i_echo_loop (n:Nat) (N:Nat) (cs:List T) (pp qq:Nat):∀ (zs p acc w:List Nat) (m:Nat),0<w.length→w.length≤64→acc.length+zs.length<1048576→p.length+zs.length<1048576→zs.length<m →
  f135.l0 (n+3) m N cs 2 (fls .f32 [pp,qq]) w.length (fls .f32 w) acc.length (fls .f32 acc) (p++zs).length (fls .f32 (p++zs)) ((p++zs).length:Int) (p.length:Int) =
   some ((scan (echoStep pp qq) w zs).2.length,fls .f32 (scan (echoStep pp qq) w zs).2,(acc++(scan (echoStep pp qq) w zs).1).length,fls .f32 (acc++(scan (echoStep pp qq) w zs).1)):=by
 intro zs
 induction zs with
 | nil =>
   intro p acc w m _ _ _ _ hm
   obtain ⟨m,rfl⟩:∃ k,m=k+1:=⟨m - 1,by simp at hm;omega⟩
   rw[f135.l0,lt_end];simp[br,scan]
 | cons z zs ih =>
   intro p acc w m h0 h1 ha hp hm
   obtain ⟨m,rfl⟩:∃ k,m=k+1:=⟨m - 1,by simp at hm;omega⟩
   have hlen:(echoStep pp qq w z).2.length=w.length:=took_length h0
   have step:=ih (p++[z]) (acc++[(echoStep pp qq w z).1]) (echoStep pp qq w z).2 m (by omega) (by omega) (by simp at ha ⊢;omega) (by simp at hp ⊢;omega) (by simp at hm;omega)
   have g1:decide ((0:Int)≤0∧(0:Int)<(w.length:Int))=true:=decide_eq_true (by omega)
   have g2:okAt [.flt .f32] (fls .f32 w) 0=true:=okAt_fls h0
   have g3:fAt (fls .f32 w) 0=headM w:=fAt_fls ..
   have g4:decide ((0:Int)≤1∧(1:Int)<((2:Nat):Int))=true:=rfl
   have g5:decide ((0:Int)≤0∧(0:Int)<((2:Nat):Int))=true:=rfl
   have g6:okAt [.flt .f32] (fls .f32 [pp,qq]) 0=true:=rfl
   have g7:okAt [.flt .f32] (fls .f32 [pp,qq]) 1=true:=rfl
   have g8:fAt (fls .f32 [pp,qq]) 0=pp:=rfl
   have g9:fAt (fls .f32 [pp,qq]) 1=qq:=rfl
   have tk:∀ y,f168 (n+3) w.length (fls .f32 w) y=some ((tookM w y).length,fls .f32 (tookM w y)):=fun y=>by
    obtain ⟨v,vs,rfl⟩:∃ v vs,w=v::vs:=by cases w with
     | nil=>simp at h0
     | cons v vs=>exact ⟨v,vs,rfl⟩
    exact i_taken (n+1) v vs y (by simp at h1;omega)
   rw[f135.l0,lt_mid,in_mid,toNat_len,okAt_mid,fAt_mid]
   have w' :=wrap_len (z:=z) (p:=p) (show p.length<4611686018427387904 by simp at hp;omega)
   simp only[br_t,gd_t,Bool.and_self,g1,g2,g3,g4,g5,g6,g7,g8,g9,push_ok (show acc.length<2147483648 by simp at ha;omega),push_fls,i_flush (n+1) (w32_fadd _ _),bd_s,tk,w']
   rw[push_len (z:=(echoStep pp qq w z).1)]
   rw[List.append_assoc,List.append_assoc] at step
   exact step
section
variable {σ τ α β:Type}
theorem scan_sim (f:σ→α→β × σ) (g:τ→α→β × τ) (h:τ→σ) (P:τ→Prop) (hs:∀ t x,P t→f (h t) x=((g t x).1,h (g t x).2)∧P (g t x).2):∀ (xs:List α) (t:τ),P t→scan f (h t) xs=((scan g t xs).1,h (scan g t xs).2)∧P (scan g t xs).2
 | [],t,ht=>⟨rfl,ht⟩
 | x::xs,t,ht=>by
   obtain ⟨e,hp⟩:=hs t x ht
   obtain ⟨e2,hp2⟩:=scan_sim f g h P hs xs _ hp
   refine ⟨?_,hp2⟩
   simp only[scan,e,e2]
theorem scan_pure (f:α→β):∀ (xs:List α),scan (fun (_:List τ) x=>(f x,([]:List τ))) [] xs=(xs.map f,[])
 | []=>rfl
 | x::xs=>by simp only[scan,scan_pure f xs,List.map_cons]
theorem scan_twin (f:σ→α × α→β × σ):∀ (xs:List α) (s:σ),scan f s (xs.zip xs)=scan (fun s x=>f s (x,x)) s xs
 | [],s=>rfl
 | x::xs,s=>by simp only[List.zip_cons_cons,scan,scan_twin f xs]
end
def Ef.step:Ef→List Nat→Nat→Nat × List Nat
 | .scale g,_,x=>(fmul .f32 x g,[])
 | .filt a b c d e,w,x=>((fstep (a,b,c,d,e) 1 true (w.getD 0 0,w.getD 1 0,0,0) x).1,[(fstep (a,b,c,d,e) 1 true (w.getD 0 0,w.getD 1 0,0,0) x).2.1,(fstep (a,b,c,d,e) 1 true (w.getD 0 0,w.getD 1 0,0,0) x).2.2.1])
 | .echo L p q,w,x=>echoStep p q w x
 | .squeeze a r t q,w,x=>((duckStep a r t q (w.getD 0 0) (x,x)).1,[(duckStep a r t q (w.getD 0 0) (x,x)).2])
 | .clip g,_,x=>(clipM g x,[])
 | .bend,_,x=>(bendM x,[])
 | .lim A k r,w,x=>((limStep k r (w.getD 0 0,w.drop 1) x).1,(limStep k r (w.getD 0 0,w.drop 1) x).2.1::(limStep k r (w.getD 0 0,w.drop 1) x).2.2)
def Fit (e:Ef) (w:List Nat):Prop:=w.length=e.keep∧AllW w
theorem w32_bend {x:Nat}:W32 (bendM x):=by
 unfold bendM
 split
 ·exact ⟨by decide,by decide⟩
 ·split
  ·exact ⟨by decide,by decide⟩
  ·exact w32_fmul _ _
theorem w32_at {w:List Nat} (h:AllW w) (i:Nat):W32 (w.getD i 0):=by
 unfold List.getD
 cases hi:w[i]? with
 | none=>exact w32_zero
 | some v=>exact h v (List.mem_of_getElem? hi)
theorem step_fit {e:Ef} (he:e.Ok) {w:List Nat} (h:Fit e w) {x:Nat} (hx:W32 x):W32 (e.step w x).1∧Fit e (e.step w x).2:=by
 obtain ⟨hl,hw⟩:=h
 cases e with
 | scale g=>exact ⟨w32_fmul _ _,rfl,fun y hy=>by cases hy⟩
 | filt a b c d e =>
   obtain ⟨q1,q2,q3,q4,q5⟩:=fstep_w32 (f:=(a,b,c,d,e)) (form:=1) (b:=true) (m:=(w.getD 0 0,w.getD 1 0,0,0)) (x:=x) ⟨w32_at hw 0,w32_at hw 1,w32_zero,w32_zero⟩ hx
   refine ⟨q1,rfl,fun y hy => ?_⟩
   simp only[Ef.step,List.mem_cons,List.not_mem_nil,or_false] at hy
   rcases hy with rfl | rfl
   ·exact q2
   ·exact q3
 | echo L p q =>
   have h1:1≤L∧L≤32:=he
   have hl:w.length=L:=hl
   exact ⟨w32_fadd _ _,(took_length (by omega)).trans hl,allW_took hw (w32_flush (w32_fadd _ _))⟩
 | squeeze a r t q =>
   refine ⟨w32_fmul _ _,rfl,fun y hy => ?_⟩
   simp only[Ef.step,List.mem_cons,List.not_mem_nil,or_false] at hy
   subst hy;exact w32_level ..
 | clip g=>exact ⟨w32_clip he hx,rfl,fun y hy=>by cases hy⟩
 | bend=>exact ⟨w32_bend,rfl,fun y hy=>by cases hy⟩
 | lim A k r =>
   have hl:w.length=A+1:=hl
   refine ⟨w32_clip he.2.1 (w32_fmul _ _),?_,fun y hy => ?_⟩
   ·show (limStep k r (w.getD 0 0,w.drop 1) x).2.2.length+1=A+1
    simp[limStep];omega
   ·simp only[Ef.step,List.mem_cons] at hy
    rcases hy with rfl | hy
    ·exact w32_limG w32_limT (w32_fadd _ _)
    ·have:=List.mem_of_mem_drop hy
     simp only[List.mem_append,List.mem_singleton] at this
     rcases this with h | rfl
     ·exact hw y (List.mem_of_mem_drop h)
     ·exact hx
theorem run_fit {e:Ef} (he:e.Ok) (xs:List Nat) {w:List Nat} (h:Fit e w) (hx:AllW xs):AllW (scan e.step w xs).1∧Fit e (scan e.step w xs).2 :=
 scan_inv (f:=e.step) (P:=Fit e) (Q:=W32) (S:=W32) (fun _ _ hs hq=>step_fit he hs hq) xs w h hx
theorem sim_filt (a b c d e:Nat) (xs w:List Nat) (hl:w.length=2):∃ u v,(scan (Ef.filt a b c d e).step w xs).2=[u,v]∧scan (fstep (a,b,c,d,e) 1 true) (w.getD 0 0,w.getD 1 0,0,0) xs=((scan (Ef.filt a b c d e).step w xs).1,(u,v,0,0)):=by
 obtain ⟨h1,h2⟩:=scan_sim (fstep (a,b,c,d,e) 1 true) (Ef.filt a b c d e).step (fun w=>(w.getD 0 0,w.getD 1 0,0,0)) (fun w=>w.length=2) (fun t x ht=>⟨by
  have z:fl? true 0=0:=by decide
  simp only[fstep,Ef.step,List.getD_cons_zero,List.getD_cons_succ,z,if_neg (show ¬ (1:Int)=0 by decide),if_pos],rfl⟩) xs w hl
 generalize (scan (Ef.filt a b c d e).step w xs)=r at h1 h2
 obtain ⟨ys,r⟩:=r
 match r,h2 with
 | [u,v],_=>exact ⟨u,v,rfl,h1⟩
theorem sim_squeeze (a r t q:Nat) (xs w:List Nat) (hl:w.length=1):∃ u,(scan (Ef.squeeze a r t q).step w xs).2=[u]∧scan (duckStep a r t q) (w.getD 0 0) (xs.zip xs)=((scan (Ef.squeeze a r t q).step w xs).1,u):=by
 rw[scan_twin]
 obtain ⟨h1,h2⟩:=scan_sim (fun s x=>duckStep a r t q s (x,x)) (Ef.squeeze a r t q).step (fun w=>w.getD 0 0) (fun w=>w.length=1) (fun t x ht=>⟨rfl,rfl⟩) xs w hl
 generalize (scan (Ef.squeeze a r t q).step w xs)=s at h1 h2
 obtain ⟨ys,s⟩:=s
 match s,h2 with
 | [u],_=>exact ⟨u,rfl,h1⟩
theorem sim_lim (A k r:Nat) (xs w:List Nat) (hl:w.length=A+1):∃ g v,(scan (Ef.lim A k r).step w xs).2=g::v∧scan (limStep k r) (w.getD 0 0,w.drop 1) xs=((scan (Ef.lim A k r).step w xs).1,(g,v)):=by
 obtain ⟨h1,h2⟩:=scan_sim (limStep k r) (Ef.lim A k r).step (fun w=>(w.getD 0 0,w.drop 1)) (fun w=>0<w.length) (fun t x ht=>⟨rfl,by simp[Ef.step]⟩) xs w (by omega)
 generalize (scan (Ef.lim A k r).step w xs)=s at h1 h2
 obtain ⟨ys,s⟩:=s
 match s,h2 with
 | g::v,_=>exact ⟨g,v,rfl,h1⟩
def chainGo:List Ef→List (List Nat)→List Nat→List Nat × List (List Nat)
 | e::es,w::ls,xs=>((chainGo es ls (scan e.step w xs).1).1,(scan e.step w xs).2::(chainGo es ls (scan e.step w xs).1).2)
 | _,_,xs=>(xs,[])
def Fits:List Ef→List (List Nat)→Prop
 | e::es,w::ls=>Fit e w∧Fits es ls
 | [],[]=>True
 | _,_=>False
theorem Fits.len:∀ {es:List Ef} {ls:List (List Nat)},Fits es ls→ls.length=es.length
 | [],[],_=>rfl
 | _::_,_::_,h=>by simp[h.2.len]
 | [],_::_,h=>h.elim
 | _::_,[],h=>h.elim
theorem Fits.at:∀ {es:List Ef} {ls:List (List Nat)},Fits es ls→∀ i,i<es.length→Fit (efAt es i) (row ls i)
 | [],[],_,i,hi=>by simp at hi
 | _::_,_::_,h,0,_=>h.1
 | _::_,_::_,h,i+1,hi=>h.2.at i (by simpa using hi)
 | [],_::_,h,_,_=>h.elim
 | _::_,[],h,_,_=>h.elim
theorem Fits.sok {es:List Ef} {ls:List (List Nat)} (h:Fits es ls):Sok es ls:=⟨h.len,fun i hi=>h.at i (by rw[← h.len];exact hi)⟩
theorem Sok.fits:∀ {es:List Ef} {ls:List (List Nat)},Sok es ls→Fits es ls
 | [],[],_=>trivial
 | e::es,w::ls,h=>⟨h.2 0 (by simp),Sok.fits ⟨by have:=h.1;simpa using this,fun i hi=>h.2 (i+1) (by simpa using hi)⟩⟩
 | [],_::_,h=>by have:=h.1;simp at this
 | _::_,[],h=>by have:=h.1;simp at this
theorem chain_fit:∀ (es:List Ef) (ls:List (List Nat)) (xs:List Nat),(∀ e∈es,e.Ok)→Fits es ls→AllW xs→AllW (chainGo es ls xs).1∧Fits es (chainGo es ls xs).2∧(chainGo es ls xs).1.length=xs.length
 | [],[],xs,_,_,hx=>⟨hx,trivial,rfl⟩
 | e::es,w::ls,xs,ho,h,hx=>by
   obtain ⟨a,b⟩:=run_fit (ho e (by simp)) xs h.1 hx
   obtain ⟨c,d,f⟩:=chain_fit es ls _ (fun e he=>ho e (by simp[he])) h.2 a
   exact ⟨c,⟨b,d⟩,f.trans (scan_length _ _ _)⟩
 | [],_::_,_,_,h,_=>h.elim
 | _::_,[],_,_,h,_=>h.elim
theorem drop_one {w:List Nat}:((fls .f32 w).drop 1).take (w.length - 1)=fls .f32 (w.drop 1):=by
 rw[fls_drop,fls_take,List.take_of_length_le (by simp)]
theorem i_effectrun (n:Nat) {e:Ef} (he:e.Ok) {w xs:List Nat} (hf:Fit e w) (hx:AllW xs) (hl:xs.length≤256) (hn:600<n) :
  f135 (n+102) e.eff.kind e.eff.len e.eff.nums.length (fls .f32 e.eff.nums) w.length (fls .f32 w) xs.length (fls .f32 xs) =
   some ((scan e.step w xs).1.length,fls .f32 (scan e.step w xs).1,(scan e.step w xs).2.length,fls .f32 (scan e.step w xs).2):=by
 obtain ⟨hwl,hww⟩:=hf
 rw[f135]
 cases e with
 | scale g =>
   obtain rfl:w=[]:=List.length_eq_zero_iff.1 hwl
   have e1:=i_scaledq (n+100) xs g (by omega) (by omega)
   have e1:f167 (n+101) xs.length (fls .f32 xs) g=_:=e1
   have g1:decide ((0:Int)≤0∧(0:Int)<(([g].length:Nat):Int))=true:=rfl
   have g2:okAt [.flt .f32] (fls .f32 [g]) 0=true:=rfl
   have g3:fAt (fls .f32 [g]) 0=g:=rfl
   have hs:scan (Ef.scale g).step [] xs=(xs.map fun z=>fmul .f32 z g,[]):=scan_pure (fun z=>fmul .f32 z g) xs
   simp only[Ef.eff,beq_self_eq_true,br_t,g1,g2,g3,Bool.and_self,gd_t,e1,bd_s,hs]
   rfl
 | filt a b c d f =>
   have hw2:w.length=2:=hwl
   obtain ⟨u,v,hs2,hs⟩:=sim_filt a b c d f xs w hw2
   have e1:=i_frun (n+96) (a,b,c,d,f) 1 true (w.getD 0 0,w.getD 1 0,0,0) xs hx ⟨w32_at hww 0,w32_at hww 1,w32_zero,w32_zero⟩ (by omega) (by omega)
   rw[hs] at e1
   have e1:f96 (n+101) a b c d f 1 true (w.getD 0 0) (w.getD 1 0) 0 0 xs.length (fls .f32 xs)=_:=e1
   have g (i:Nat) (hi:i<5):okAt [.flt .f32] (fls .f32 [a,b,c,d,f]) i=true:=okAt_fls (by simpa using hi)
   have k0:fAt (fls .f32 [a,b,c,d,f]) 0=a:=rfl
   have k1:fAt (fls .f32 [a,b,c,d,f]) 1=b:=rfl
   have k2:fAt (fls .f32 [a,b,c,d,f]) 2=c:=rfl
   have k3:fAt (fls .f32 [a,b,c,d,f]) 3=d:=rfl
   have k4:fAt (fls .f32 [a,b,c,d,f]) 4=f:=rfl
   have d0:decide ((0:Int)≤0∧(0:Int)<(([a,b,c,d,f].length:Nat):Int))=true:=rfl
   have d1:decide ((0:Int)≤1∧(1:Int)<(([a,b,c,d,f].length:Nat):Int))=true:=rfl
   have d2:decide ((0:Int)≤2∧(2:Int)<(([a,b,c,d,f].length:Nat):Int))=true:=rfl
   have d3:decide ((0:Int)≤3∧(3:Int)<(([a,b,c,d,f].length:Nat):Int))=true:=rfl
   have d4:decide ((0:Int)≤4∧(4:Int)<(([a,b,c,d,f].length:Nat):Int))=true:=rfl
   have w0:okAt [.flt .f32] (fls .f32 w) 0=true:=okAt_fls (by omega)
   have w1:okAt [.flt .f32] (fls .f32 w) 1=true:=okAt_fls (by omega)
   have q0:decide ((0:Int)≤0∧(0:Int)<(w.length:Int))=true:=decide_eq_true (by omega)
   have q1:decide ((0:Int)≤1∧(1:Int)<(w.length:Int))=true:=decide_eq_true (by omega)
   simp only[Ef.eff,show ((1:Int)==0)=false from rfl,beq_self_eq_true,br_t,br_f,g 0 (by decide),g 1 (by decide),g 2 (by decide),g 3 (by decide),g 4 (by decide),k0,k1,k2,k3,k4,d0,d1,d2,d3,d4,w0,w1,q0,q1,fAt_fls,Bool.and_self,gd_t,e1,bd_s,hs2]
   rfl
 | echo L p q =>
   have hL:1≤L∧L≤32:=he
   have hwL:w.length=L:=hwl
   have e0:=i_copy (n+100) w (by omega)
   have e0:f84 (n+101) w.length (fls .f32 w)=_:=e0
   have e1:=i_echo_loop (n+98) xs.length (fls .f32 xs) p q xs [] [] w (n+101) (by omega) (by omega) (by simp;omega) (by simp;omega) (by omega)
   have e1:f135.l0 (n+101) (n+101) xs.length (fls .f32 xs) [p,q].length (fls .f32 [p,q]) w.length (fls .f32 w) 0 [] xs.length (fls .f32 xs) (xs.length:Int) 0=_:=e1
   simp only[Ef.eff,show ((2:Int)==0)=false from rfl,show ((2:Int)==1)=false from rfl,beq_self_eq_true,br_t,br_f,e0,bd_s,e1]
   rfl
 | squeeze a r t q =>
   have hw1:w.length=1:=hwl
   obtain ⟨u,hs2,hs⟩:=sim_squeeze a r t q xs w hw1
   have e1:=i_runsqueeze (n+96) a r (w.getD 0 0) t q xs hx hl (by omega)
   rw[hs] at e1
   have e1:f170 (n+101) a r (w.getD 0 0) t q xs.length (fls .f32 xs)=_:=e1
   have g (i:Nat) (hi:i<4):okAt [.flt .f32] (fls .f32 [a,r,t,q]) i=true:=okAt_fls (by simpa using hi)
   have k0:fAt (fls .f32 [a,r,t,q]) 0=a:=rfl
   have k1:fAt (fls .f32 [a,r,t,q]) 1=r:=rfl
   have k2:fAt (fls .f32 [a,r,t,q]) 2=t:=rfl
   have k3:fAt (fls .f32 [a,r,t,q]) 3=q:=rfl
   have d0:decide ((0:Int)≤0∧(0:Int)<(([a,r,t,q].length:Nat):Int))=true:=rfl
   have d1:decide ((0:Int)≤1∧(1:Int)<(([a,r,t,q].length:Nat):Int))=true:=rfl
   have d2:decide ((0:Int)≤2∧(2:Int)<(([a,r,t,q].length:Nat):Int))=true:=rfl
   have d3:decide ((0:Int)≤3∧(3:Int)<(([a,r,t,q].length:Nat):Int))=true:=rfl
   have w0:okAt [.flt .f32] (fls .f32 w) 0=true:=okAt_fls (by omega)
   have q0:decide ((0:Int)≤0∧(0:Int)<(w.length:Int))=true:=decide_eq_true (by omega)
   simp only[Ef.eff,show ((3:Int)==0)=false from rfl,show ((3:Int)==1)=false from rfl,show ((3:Int)==2)=false from rfl,beq_self_eq_true,br_t,br_f,g 0 (by decide),g 1 (by decide),g 2 (by decide),g 3 (by decide),k0,k1,k2,k3,d0,d1,d2,d3,w0,q0,Bool.and_self,gd_t]
   rw[fAt_fls]
   simp only[e1,bd_s,hs2]
   rfl
 | clip g =>
   obtain rfl:w=[]:=List.length_eq_zero_iff.1 hwl
   have e1:=i_clips (n+97) g xs hx hl (by omega)
   have e1:f171 (n+101) xs.length (fls .f32 xs) g=_:=e1
   have g1:decide ((0:Int)≤0∧(0:Int)<(([g].length:Nat):Int))=true:=rfl
   have g2:okAt [.flt .f32] (fls .f32 [g]) 0=true:=rfl
   have g3:fAt (fls .f32 [g]) 0=g:=rfl
   have hs:scan (Ef.clip g).step [] xs=(xs.map (clipM g),[]):=scan_pure (clipM g) xs
   simp only[Ef.eff,show ((4:Int)==0)=false from rfl,show ((4:Int)==1)=false from rfl,show ((4:Int)==2)=false from rfl,show ((4:Int)==3)=false from rfl,beq_self_eq_true,br_t,br_f,g1,g2,g3,Bool.and_self,gd_t,e1,bd_s,hs,List.length_map]
   rfl
 | bend =>
   obtain rfl:w=[]:=List.length_eq_zero_iff.1 hwl
   have e1:=i_bends_loop (n+100) xs.length (fls .f32 xs) xs [] [] (n+101) (by simp;omega) (by simp;omega) (by omega)
   have e1:f135.l1 (n+101) (n+101) xs.length (fls .f32 xs) 0 [] xs.length (fls .f32 xs) (xs.length:Int) 0=_:=e1
   have hs:scan Ef.bend.step [] xs=(xs.map bendM,[]):=scan_pure bendM xs
   simp only[Ef.eff,show ((5:Int)==0)=false from rfl,show ((5:Int)==1)=false from rfl,show ((5:Int)==2)=false from rfl,show ((5:Int)==3)=false from rfl,show ((5:Int)==4)=false from rfl,beq_self_eq_true,br_t,br_f,e1,bd_s,hs]
   rfl
 | lim A k r =>
   have hA:A≤32∧W32 k∧(fin32 k&&fgt .f32 k 0)=true:=he
   have hwA:w.length=A+1:=hwl
   obtain ⟨gg,v,hs2,hs⟩:=sim_lim A k r xs w hwA
   have hk:=hA.2.2
   have e1:=i_runlimiter n k r (w.getD 0 0) (w.drop 1) xs hA.2.1 hk (w32_at hww 0) (fun y hy=>hww y (List.mem_of_mem_drop hy)) (by simp;omega) hx hl (by omega)
   rw[hs,List.length_drop] at e1
   have hfit:=run_fit (e:=.lim A k r) he xs ⟨hwl,hww⟩ hx
   have hv:v.length=A:=by
    have h1:(scan (Ef.lim A k r).step w xs).2.length=A+1:=hfit.2.1
    rw[hs2] at h1
    simpa using h1
   have g1:decide ((0:Int)≤0∧(0:Int)<(([k,r].length:Nat):Int))=true:=rfl
   have g2:okAt [.flt .f32] (fls .f32 [k,r]) 0=true:=rfl
   have g3:fAt (fls .f32 [k,r]) 0=k:=rfl
   have g4:decide ((0:Int)≤1∧(1:Int)<(([k,r].length:Nat):Int))=true:=rfl
   have g5:okAt [.flt .f32] (fls .f32 [k,r]) 1=true:=rfl
   have g6:fAt (fls .f32 [k,r]) 1=r:=rfl
   have w0:okAt [.flt .f32] (fls .f32 w) 0=true:=okAt_fls (by omega)
   have q0:decide ((0:Int)≤0∧(0:Int)<(w.length:Int))=true:=decide_eq_true (by omega)
   have q1:decide ((0:Int)≤1∧(1:Int)≤(w.length:Int)∧(w.length:Int)≤(w.length:Int))=true:=decide_eq_true (by omega)
   have b1:Nat.ble (1+v.length) 2147483648=true:=by rw[Nat.ble_eq];omega
   simp only[Ef.eff,show ((6:Int)==0)=false from rfl,show ((6:Int)==1)=false from rfl,show ((6:Int)==2)=false from rfl,show ((6:Int)==3)=false from rfl,show ((6:Int)==4)=false from rfl,show ((6:Int)==5)=false from rfl,br_f,g1,g2,g3,g4,g5,g6,w0,q0,q1,Bool.and_self,gd_t,drop_one]
   rw[fAt_fls]
   simp only[e1,bd_s,b1,gd_t,hs2]
   rw[Nat.add_comm 1 v.length]
   rfl
theorem i_chain_loop (n:Nat) (hn:600<n) (N N2:Nat) (cs:List T) (es:List Ef) (hle:es.length≤100) (ho:∀ e∈es,e.Ok) (ls:List (List Nat)) (hf:Fits es ls):∀ (j i m:Nat) (P:List (List Nat)) (xs:List Nat),i+j=es.length→P.length≤i→AllW xs→xs.length≤256→j<m →
  f75.l0 (n+102) m N cs ls.length (ls.map rwF) xs.length (fls .f32 xs) P.length (P.map rwF) es.length (effs (effL es)) (es.length:Int) (i:Int) =
   some ((chainGo (es.drop i) (ls.drop i) xs).1.length,fls .f32 (chainGo (es.drop i) (ls.drop i) xs).1,(P++(chainGo (es.drop i) (ls.drop i) xs).2).length,(P++(chainGo (es.drop i) (ls.drop i) xs).2).map rwF):=by
 have hlen:=hf.len
 intro j
 induction j with
 | zero =>
   intro i m P xs hi hP hx hl hm
   obtain ⟨m,rfl⟩:∃ k,m=k+1:=⟨m - 1,by omega⟩
   rw[f75.l0,nlt_dec (by omega),List.drop_eq_nil_of_le (show es.length≤i by omega),List.drop_eq_nil_of_le (show ls.length≤i by omega)]
   simp only[br_f,chainGo,List.append_nil]
 | succ j ih =>
   intro i m P xs hi hP hx hl hm
   obtain ⟨m,rfl⟩:∃ k,m=k+1:=⟨m - 1,by omega⟩
   have h:i<es.length:=by omega
   have he:i<(effL es).length:=by rw[effL_length];exact h
   have hil:i<ls.length:=by omega
   have hO:=ho _ (efAt_mem h)
   have hF:=hf.at i h
   have e1:=i_effectrun n hO hF hx hl hn
   obtain ⟨f1,f2⟩:=run_fit hO xs hF hx
   have l1:(scan (efAt es i).step (row ls i) xs).1.length=xs.length:=scan_length _ _ _
   have step:=ih (i+1) m (P++[(scan (efAt es i).step (row ls i) xs).2]) (scan (efAt es i).step (row ls i) xs).1 (by omega) (by simp;omega) f1 (by omega) (by omega)
   have hd:chainGo (es.drop i) (ls.drop i) xs=((chainGo (es.drop (i+1)) (ls.drop (i+1)) (scan (efAt es i).step (row ls i) xs).1).1,(scan (efAt es i).step (row ls i) xs).2::(chainGo (es.drop (i+1)) (ls.drop (i+1)) (scan (efAt es i).step (row ls i) xs).1).2):=by
    rw[ef_drop h,row_drop hil];rfl
   have hp:=push_rw P (scan (efAt es i).step (row ls i) xs).2
   rw[f75.l0,lt_dec h,in_dec h,in_dec hil,Int.toNat_natCast,okE he,okR hil]
   simp only[br_t,Bool.and_self,gd_t,kE he,gE he,nE he,lE he,effL_at h,nR hil,lR hil,e1,bd_s,push_ok (show P.length<2147483648 by omega),hp,wrap_succ (show i<9223372036854775807 by omega)]
   rw[push_len (z:=(scan (efAt es i).step (row ls i) xs).2),step,hd]
   simp
theorem i_runchain_ (n:Nat) (hn:600<n) (es:List Ef) (hle:es.length≤100) (ho:∀ e∈es,e.Ok) (ls:List (List Nat)) (hf:Fits es ls) (xs:List Nat) (hx:AllW xs) (hl:xs.length≤256) :
  f75 (n+103) es.length (effs (effL es)) ls.length (ls.map rwF) xs.length (fls .f32 xs) =
   some ((chainGo es ls xs).1.length,fls .f32 (chainGo es ls xs).1,(chainGo es ls xs).2.length,(chainGo es ls xs).2.map rwF):=by
 have e1:=i_chain_loop n hn es.length es.length (effs (effL es)) es hle ho ls hf es.length 0 (n+102) [] xs (by omega) (by simp) hx hl (by omega)
 have e1:f75.l0 (n+102) (n+102) es.length (effs (effL es)) ls.length (ls.map rwF) xs.length (fls .f32 xs) 0 [] es.length (effs (effL es)) (es.length:Int) 0=_:=e1
 have e0:=i_copy (n+101) xs (by omega)
 have e0:f84 (n+102) xs.length (fls .f32 xs)=_:=e0
 rw[f75,e0]
 simp only[bd_s,e1,List.drop_zero,List.nil_append]
theorem i_runchain (n:Nat) (hn:600<n) (es:List Ef) (hle:es.length≤8) (ho:∀ e∈es,e.Ok) (ls:List (List Nat)) (hf:Fits es ls) (xs:List Nat) (hx:AllW xs) (hl:xs.length≤256) :
  f22 (n+104) es.length (effs (effL es)) ls.length (ls.map rwF) xs.length (fls .f32 xs) =
   some ((chainGo es ls xs).1.length,fls .f32 (chainGo es ls xs).1,(chainGo es ls xs).2.length,(chainGo es ls xs).2.map rwF,true):=by
 have e0:=i_isstate (n+97) es hle ho ls hf.sok (by omega)
 have e0:f24 (n+103) es.length (effs (effL es)) es.length (ls.map rwF)=_:=e0
 rw[← hf.len] at e0
 rw[f22,hf.len.symm,e0,i_few,decide_eq_true (show (xs.length:Int)≤256 by omega)]
 have e1:=i_runchain_ n hn es (by omega) ho ls hf xs hx hl
 rw[hf.len.symm] at e1
 simp only[bd_s,Bool.not_true,br_f,e1]
def effB (e:Eff):Bool :=
 if e.kind=0∨e.kind=4 then decide (e.len=0∧e.nums.length=1)
 else if e.kind=1 then decide (e.len=0∧e.nums.length=5)
 else if e.kind=2 then decide ((1≤e.len∧e.len≤32)∧e.nums.length=2)
 else if e.kind=3 then decide (e.len=0∧e.nums.length=4)
 else if e.kind=5 then decide (e.len=0∧e.nums.length=0)
 else if e.kind=6 then decide ((0≤e.len∧e.len≤32)∧e.nums.length=2)&&(fin32 (e.nums.getD 0 0)&&fgt .f32 (e.nums.getD 0 0) 0)
 else false
def GoodE (e:Eff):Prop:=GoodI .i64 e.kind∧GoodI .i64 e.len∧(∀ x∈e.nums,W32 x)
def chainB (cs:List Eff):Bool:=decide (cs.length≤8)&&cs.all effB
structure Strp where
 es:List Eff
 tn:Int
 pan:Nat
 mute:Bool
 solo:Bool
section
variable {ts:List Strp} {i:Nat} (h:i<ts.length)
include h
end
def panB (x:Nat):Bool:=fge .f32 x 0&&fle .f32 x 1065353216
theorem i_state (n:Nat) {e:Ef} (h:e.Ok):f77 (n+2) e.eff.kind e.eff.len e.eff.nums.length (fls .f32 e.eff.nums)=some (e.keep,fls .f32 (newRow e)):=by
 rw[f77]
 cases e with
 | scale g=>rfl
 | filt a b c d f =>
   have hz:=i_zeroed n 2 (by omega)
   simp only[Ef.eff,beq_self_eq_true,br_t,br_f]
   show bd (f91 (n+1) ((2:Nat):Int)) _=_
   rw[hz];rfl
 | echo L p q =>
   have hL:1≤L∧L≤32:=h
   have hz:=i_zeroed n L (by omega)
   simp only[Ef.eff,show ((2:Int)==1)=false from rfl,beq_self_eq_true,br_t,br_f,hz,bd_s]
   rfl
 | squeeze a b c d =>
   have hz:=i_zeroed n 1 (by omega)
   simp only[Ef.eff,show ((3:Int)==1)=false from rfl,show ((3:Int)==2)=false from rfl,beq_self_eq_true,br_t,br_f]
   show bd (f91 (n+1) ((1:Nat):Int)) _=_
   rw[hz];rfl
 | clip g=>rfl
 | bend=>rfl
 | lim A k r =>
   have hA:A≤32∧W32 k∧_:=h
   have hz:=i_zeroed n A (by omega)
   have hb:Nat.ble (1+A) 2147483648=true:=by rw[Nat.ble_eq];omega
   simp only[Ef.eff,show ((6:Int)==1)=false from rfl,show ((6:Int)==2)=false from rfl,show ((6:Int)==3)=false from rfl,beq_self_eq_true,br_t,br_f,hz,bd_s,hb,gd_t]
   rw[Nat.add_comm 1 A]
   rfl
theorem i_new_loop (n:Nat) (N:Nat) (ts:List T) (es:List Ef) (hl:es.length≤100) (hok:∀ e∈es,e.Ok):∀ (j i m:Nat) (P:List (List Nat)),i+j=es.length→P.length≤i→j<m →
  f80.l0 (n+2) m N ts P.length (P.map rwF) es.length (effs (effL es)) (es.length:Int) (i:Int)=some ((P++(es.drop i).map newRow).length,(P++(es.drop i).map newRow).map rwF):=by
 intro j
 induction j with
 | zero =>
   intro i m P hi hP hm
   obtain ⟨m,rfl⟩:∃ k,m=k+1:=⟨m - 1,by omega⟩
   rw[f80.l0,nlt_dec (by omega),List.drop_eq_nil_of_le (by omega)]
   simp[br]
 | succ j ih =>
   intro i m P hi hP hm
   obtain ⟨m,rfl⟩:∃ k,m=k+1:=⟨m - 1,by omega⟩
   have h:i<es.length:=by omega
   have he:i<(effL es).length:=by rw[effL_length];exact h
   have hE:=hok _ (efAt_mem h)
   have hp:=push_rw P (newRow (efAt es i))
   rw[newRow_length] at hp
   have step:=ih (i+1) m (P++[newRow (efAt es i)]) (by omega) (by simp;omega) (by omega)
   rw[f80.l0,lt_dec h,in_dec h,Int.toNat_natCast,okE he,ef_drop h]
   simp only[br_t,Bool.and_self,gd_t,kE he,gE he,nE he,lE he,effL_at h,i_state n hE,bd_s,push_ok (show P.length<2147483648 by omega),hp,wrap_succ (show i<9223372036854775807 by omega)]
   rw[push_len (z:=newRow (efAt es i)),step]
   simp
theorem i_newstate (n:Nat) (es:List Ef) (hl:es.length≤100) (hok:∀ e∈es,e.Ok) (hn:200<n):f80 (n+3) es.length (effs (effL es))=some ((es.map newRow).length,(es.map newRow).map rwF):=by
 have e:=i_new_loop n es.length (effs (effL es)) es hl hok es.length 0 (n+2) [] (by omega) (by simp) (by omega)
 have e:f80.l0 (n+2) (n+2) es.length (effs (effL es)) 0 [] es.length (effs (effL es)) (es.length:Int) 0=_:=e
 rw[f80,e]
 simp only[bd_s,List.drop_zero,List.nil_append]
structure SOk (cl:List Eff) (ss:List Strp):Prop where
 n:1≤ss.length∧ss.length≤8
 c:cl.length≤12
 s:∀ s∈ss,chainB s.es=true∧(-2000≤s.tn∧s.tn≤2000)∧panB s.pan=true
 k:∀ c∈cl,(0≤c.kind∧c.kind≤(ss.length:Int) - 1)∧(0≤c.len∧c.len≤256)∧c.nums.length≤256
structure GoodS (cl:List Eff) (ss:List Strp):Prop where
 c:∀ c∈cl,GoodE c
 s:∀ s∈ss,(∀ e∈s.es,GoodE e)∧GoodI .i64 s.tn∧W32 s.pan
theorem chain_two:∀ (es:List Ef) (ls:List (List Nat)) (fs:List Ef) (ks:List (List Nat)) (xs:List Nat),ls.length=es.length →
  chainGo (es++fs) (ls++ks) xs=((chainGo fs ks (chainGo es ls xs).1).1,(chainGo es ls xs).2++(chainGo fs ks (chainGo es ls xs).1).2)
 | [],[],fs,ks,xs,_=>rfl
 | e::es,w::ls,fs,ks,xs,h=>by
   simp only[List.cons_append,chainGo,chain_two es ls fs ks _ (by simpa using h)]
 | [],_::_,_,_,_,h=>by simp at h
 | _::_,[],_,_,_,h=>by simp at h
theorem fits_two:∀ {es:List Ef} {ls:List (List Nat)} {fs:List Ef} {ks:List (List Nat)},Fits es ls→Fits fs ks→Fits (es++fs) (ls++ks)
 | [],[],_,_,_,h=>h
 | _::_,_::_,_,_,h,k=>⟨h.1,fits_two h.2 k⟩
 | [],_::_,_,_,h,_=>h.elim
 | _::_,[],_,_,h,_=>h.elim
theorem fits_strike:∀ {es:List Ef} {ls:List (List Nat)} (k:Nat),Fits es ls→Fits (es.eraseIdx k) (ls.eraseIdx k)
 | [],[],_,h=>h
 | _::_,_::_,0,h=>h.2
 | _::_,_::_,k+1,h=>⟨h.1,fits_strike k h.2⟩
 | [],_::_,_,h=>h.elim
 | _::_,[],_,h=>h.elim
theorem eff_small (e:Ef):e.eff.nums.length≤10:=by cases e <;>simp[Ef.eff]
theorem eff_len {e:Ef} (h:e.Ok):0≤e.eff.len∧e.eff.len≤64:=by
 cases e <;>simp[Ef.eff]
 ·have:1≤_∧_≤32:=h
  omega
 ·have:=h.1
  omega
theorem effL_append (es fs:List Ef):effL (es++fs)=effL es++effL fs:=by simp[effL]
theorem effs_append (es fs:List Eff):effs (es++fs)=effs es++effs fs:=by simp[effs]
theorem i_copychain_loop (n:Nat) (N:Nat) (ts:List T) (cs:List Eff) (hl:cs.length≤100) (hx:∀ e∈cs,e.nums.length≤1000):∀ (j i m:Nat) (P:List Eff),i+j=cs.length→P.length≤i→j<m →
  f78.l0 (n+1) m N ts P.length (effs P) cs.length (effs cs) (cs.length:Int) (i:Int)=some ((P++cs.drop i).length,effs (P++cs.drop i)):=by
 intro j
 induction j with
 | zero =>
   intro i m P hi hP hm
   obtain ⟨m,rfl⟩:∃ k,m=k+1:=⟨m - 1,by omega⟩
   rw[f78.l0,nlt_dec (by omega),List.drop_eq_nil_of_le (by omega),List.append_nil];rfl
 | succ j ih =>
   intro i m P hi hP hm
   obtain ⟨m,rfl⟩:∃ k,m=k+1:=⟨m - 1,by omega⟩
   have h:i<cs.length:=by omega
   have g:=i_copy n (eAt cs i).nums (by have:=hx _ (eAt_mem h);omega)
   have hp:=push_eff P (eAt cs i)
   unfold effC at hp
   rw[f78.l0,lt_dec h,in_dec h,Int.toNat_natCast,okE h]
   simp only[br_t,Bool.and_self,gd_t,kE h,gE h,nE h,lE h,g,bd_s,push_ok (show P.length<2147483648 by omega),hp]
   rw[push_len (z:=eAt cs i),wrap_succ (show i<9223372036854775807 by omega),ih (i+1) m _ (by omega) (by simp;omega) (by omega),eff_drop h]
   simp
theorem i_copychain (n:Nat) (hn:200<n) (cs:List Eff) (hl:cs.length≤100) (hx:∀ e∈cs,e.nums.length≤1000):f78 (n+2) cs.length (effs cs)=some (cs.length,effs cs):=by
 have e:=i_copychain_loop n cs.length (effs cs) cs hl hx cs.length 0 (n+1) [] (by omega) (by simp) (by omega)
 simp only[List.drop_zero,List.nil_append] at e
 have e:f78.l0 (n+1) (n+1) cs.length (effs cs) 0 [] cs.length (effs cs) (cs.length:Int) 0=_:=e
 rw[f78,e];rfl
theorem effL_small (es:List Ef):∀ e∈effL es,e.nums.length≤1000:=by
 intro e he
 obtain ⟨f,-,rfl⟩:=List.mem_map.1 he
 have:=eff_small f;omega
theorem i_join (n:Nat) (hn:300<n) (es fs:List Ef) (he:es.length≤8) (hf:fs.length≤8) (ho:∀ e∈es,e.Ok) (hp:∀ e∈fs,e.Ok) :
  f26 (n+10) es.length (effs (effL es)) fs.length (effs (effL fs))=if es.length+fs.length≤8 then some ((es++fs).length,effs (effL (es++fs)),true) else some (0,[],false):=by
 have v1:=i_validchain (n+4) es he ho (by omega)
 have v1:f23 (n+9) es.length (effs (effL es))=_:=v1
 have v2:=i_validchain (n+4) fs hf hp (by omega)
 have v2:f23 (n+9) fs.length (effs (effL fs))=_:=v2
 have c1:=i_copychain (n+7) (by omega) (effL es) (by rw[effL_length];omega) (effL_small es)
 have c2:=i_copychain (n+7) (by omega) (effL fs) (by rw[effL_length];omega) (effL_small fs)
 rw[effL_length] at c1 c2
 have c1:f78 (n+9) es.length (effs (effL es))=_:=c1
 have c2:f78 (n+9) fs.length (effs (effL fs))=_:=c2
 have w:IntKind.i64.wrap ((es.length:Int)+(fs.length:Int))=(es.length:Int)+(fs.length:Int):=by rw[wrap64] <;>omega
 rw[f26,v1,v2,w]
 simp only[bd_s,Bool.not_true,br_f,c1,c2]
 by_cases h:es.length+fs.length≤8
 ·rw[if_pos h,decide_eq_false (by omega),show Nat.ble (es.length+fs.length) 2147483648=true by rw[Nat.ble_eq];omega,effL_append,effs_append,List.length_append]
  rfl
 ·rw[if_neg h,decide_eq_true (by omega)];rfl
def latM:List Eff→Int
 | []=>0
 | e::es=>(if e.kind=6 then e.len else 0)+latM es
theorem i_late_loop (n:Nat) (N:Nat) (ts:List T) (cs:List Eff) (hl:cs.length≤100) (hx:∀ e∈cs,0≤e.len∧e.len≤64):∀ (j i m:Nat) (s:Int),i+j=cs.length→0≤s→s≤64 * (i:Int)→j<m →
  f30.l0 n m N ts s cs.length (effs cs) (cs.length:Int) (i:Int)=some (s+latM (cs.drop i)):=by
 intro j
 induction j with
 | zero =>
   intro i m s hi h0 h1 hm
   obtain ⟨m,rfl⟩:∃ k,m=k+1:=⟨m - 1,by omega⟩
   rw[f30.l0,nlt_dec (by omega),List.drop_eq_nil_of_le (by omega)];simp[br,latM]
 | succ j ih =>
   intro i m s hi h0 h1 hm
   obtain ⟨m,rfl⟩:∃ k,m=k+1:=⟨m - 1,by omega⟩
   have h:i<cs.length:=by omega
   have hb:=hx _ (eAt_mem h)
   have w:IntKind.i64.wrap (s+(eAt cs i).len)=s+(eAt cs i).len:=by rw[wrap64] <;>omega
   rw[f30.l0,lt_dec h,in_dec h,Int.toNat_natCast,okE h]
   simp only[br_t,Bool.and_self,gd_t,kE h,gE h,w,wrap_succ (show i<9223372036854775807 by omega)]
   rw[eff_drop h,latM]
   by_cases hk:(eAt cs i).kind=6
   ·rw[if_pos hk,beq_iff_eq.2 hk,br_t,ih (i+1) m _ (by omega) (by omega) (by omega) (by omega)]
    congr 1;omega
   ·rw[if_neg hk,beq_eq_false_iff_ne.2 hk,br_f,ih (i+1) m _ (by omega) (by omega) (by omega) (by omega)]
    congr 1;omega
theorem l_late_loop (n:Nat) (n1:Nat) (l2:List T) (cs:List Eff) (n5:Nat) (l6:List T) (i7:Int) (hl:cs.length≤100) (hx:∀ e∈cs,0≤e.len∧e.len≤64):∀ (j i m:Nat) (s:Int),i+j=cs.length→0≤s→s≤64 * (i:Int)→j<m →
  f5.l1 n m n1 l2 cs.length (effs cs) n5 l6 i7 s (i:Int)=some (n1,l2,cs.length,effs cs,n5,l6,i7,s+latM (cs.drop i)):=by
 intro j
 induction j with
 | zero =>
   intro i m s hi h0 h1 hm
   obtain ⟨m,rfl⟩:∃ k,m=k+1:=⟨m - 1,by omega⟩
   rw[f5.l1,nlt_dec (by omega),List.drop_eq_nil_of_le (by omega)];simp[br,latM]
 | succ j ih =>
   intro i m s hi h0 h1 hm
   obtain ⟨m,rfl⟩:∃ k,m=k+1:=⟨m - 1,by omega⟩
   have h:i<cs.length:=by omega
   have hb:=hx _ (eAt_mem h)
   have w:IntKind.i64.wrap (s+(eAt cs i).len)=s+(eAt cs i).len:=by rw[wrap64] <;>omega
   have o1:okAt [.int .i64] (effs cs) (i * 3+0)=true:=by
    have h0:=eff_get (c:=0) (by decide) cs i h
    simp only[effC,List.getElem?_cons_zero] at h0
    have h0:(effs cs)[i * 3]?=_:=h0
    simp[okAt,isCK,h0]
   have o2:okAt [.int .i64] (effs cs) (i * 3+1)=true:=by
    have h1:=eff_get (c:=1) (by decide) cs i h
    simp only[effC,List.getElem?_cons_zero,List.getElem?_cons_succ] at h1
    simp[okAt,isCK,h1]
   have k1:iAt (effs cs) (i * 3+1)=(eAt cs i).len:=gE h
   rw[f5.l1,lt_dec h,in_dec h,Int.toNat_natCast,o1,o2]
   simp only[br_t,gd_t,kE h,k1,w,wrap_succ (show i<9223372036854775807 by omega)]
   rw[eff_drop h,latM]
   by_cases hk:(eAt cs i).kind=6
   ·rw[if_pos hk,beq_iff_eq.2 hk,br_t,ih (i+1) m _ (by omega) (by omega) (by omega) (by omega)]
    rw[Int.add_assoc]
   ·rw[if_neg hk,beq_eq_false_iff_ne.2 hk,br_f,ih (i+1) m _ (by omega) (by omega) (by omega) (by omega),Int.zero_add]
theorem map_erase {α β:Type} (f:α→β):∀ (l:List α) (k:Nat),(l.eraseIdx k).map f=(l.map f).eraseIdx k
 | [],_=>rfl
 | _::_,0=>rfl
 | x::l,k+1=>by
   simp only[List.eraseIdx_cons_succ,List.map_cons]
   rw[map_erase f l k]
theorem row_erase {ls:List (List Nat)} {k i:Nat}:row (ls.eraseIdx k) i=if i<k then row ls i else row ls (i+1):=by
 unfold row
 rw[List.getD_eq_getElem?_getD,List.getD_eq_getElem?_getD,List.getElem?_eraseIdx]
 split <;>simp[List.getD]
theorem eAt_erase {es:List Ef} {k i:Nat}:eAt (effL (es.eraseIdx k)) i=if i<k then eAt (effL es) i else eAt (effL es) (i+1):=by
 unfold eAt effL
 rw[map_erase,List.getD_eq_getElem?_getD,List.getElem?_eraseIdx]
 split <;>simp[List.getD]
theorem erase_split {α:Type} (l:List α) (k:Nat):l.eraseIdx k=l.take k++l.drop (k+1):=List.eraseIdx_eq_take_drop_succ l k
theorem i_without_loop (n:Nat) (n1:Nat) (l2:List T) (n3:Nat) (l4:List T) (ls:List (List Nat)) (k:Nat) (hl:ls.length≤100) (hx:∀ i,i<ls.length→(row ls i).length≤1000):∀ (j i m:Nat) (P:List (List Nat)),i+j=ls.length→P.length≤i→j<m →
  ∃ Q,Q=(if i≤k then P++(ls.drop i).eraseIdx (k - i) else P++ls.drop i)∧f31.l0 (n+1) m n1 l2 n3 l4 (k:Int) P.length (P.map rwF) ls.length (ls.map rwF) (ls.length:Int) (i:Int)=some (n1,l2,(k:Int),Q.length,Q.map rwF):=by
 intro j
 induction j with
 | zero =>
   intro i m P hi hP hm
   obtain ⟨m,rfl⟩:∃ k,m=k+1:=⟨m - 1,by omega⟩
   refine ⟨_,rfl,?_⟩
   rw[f31.l0,nlt_dec (by omega),List.drop_eq_nil_of_le (by omega)]
   split <;>simp[br]
 | succ j ih =>
   intro i m P hi hP hm
   obtain ⟨m,rfl⟩:∃ k,m=k+1:=⟨m - 1,by omega⟩
   have h:i<ls.length:=by omega
   have g:=i_copy n (row ls i) (by have:=hx i h;omega)
   have hp:=push_rw P (row ls i)
   rw[f31.l0,lt_dec h,in_dec h,Int.toNat_natCast,okR h]
   simp only[br_t,Bool.and_self,gd_t,nR h,lR h,wrap_succ (show i<9223372036854775807 by omega)]
   by_cases hk:i=k
   ·subst hk
    rw[show (((i:Nat):Int) != ((i:Nat):Int))=false by simp,br_f]
    obtain ⟨Q,q1,q2⟩:=ih (i+1) m P (by omega) (by omega) (by omega)
    refine ⟨Q,?_,q2⟩
    rw[q1,if_neg (by omega),if_pos (by omega),row_drop h,Nat.sub_self];rfl
   ·rw[show (((i:Nat):Int) != ((k:Nat):Int))=true by simp;omega]
    simp only[br_t,g,bd_s,push_ok (show P.length<2147483648 by omega),gd_t,hp]
    rw[push_len (z:=row ls i)]
    obtain ⟨Q,q1,q2⟩:=ih (i+1) m (P++[row ls i]) (by omega) (by simp;omega) (by omega)
    refine ⟨Q,?_,q2⟩
    rw[q1,row_drop h]
    by_cases h2:i<k
    ·rw[if_pos (by omega),if_pos (by omega),show k - i=(k - (i+1))+1 by omega,List.eraseIdx_cons_succ];simp
    ·rw[if_neg (by omega),if_neg (by omega)];simp
theorem effs_cut (cs:List Eff) (k:Nat):(effs cs).take (k * 3)=effs (cs.take k)∧(effs cs).drop (k * 3)=effs (cs.drop k):=by
 induction cs generalizing k with
 | nil=>simp[effs]
 | cons c cs ih =>
   cases k with
   | zero=>simp[effs]
   | succ k =>
     obtain ⟨h1,h2⟩:=ih k
     have e:effs (c::cs)=effC c++effs cs:=rfl
     rw[e,show (k+1) * 3=(effC c).length+k * 3 by simp[effC];omega]
     constructor
     ·rw[List.take_length_add_append,h1];rfl
     ·rw[List.drop_length_add_append,h2];rfl
theorem i_without (n:Nat) (hn:400<n) (es:List Ef) (he:es.length≤8) (ho:∀ e∈es,e.Ok) (ls:List (List Nat)) (hf:Fits es ls) (k:Nat) (hk:k<es.length) :
  f31 (n+10) es.length (effs (effL es)) ls.length (ls.map rwF) (k:Int)=some (es.length - 1,effs (effL (es.eraseIdx k)),(ls.eraseIdx k).length,(ls.eraseIdx k).map rwF,true):=by
 have hlen:=hf.len
 have v1:=i_isstate (n+3) es he ho ls hf.sok (by omega)
 have v1:f24 (n+9) es.length (effs (effL es)) es.length (ls.map rwF)=_:=v1
 have v2:f83 (n+9) (k:Int) (es.length:Int)=some true:=by
  have w:IntKind.i64.wrap ((es.length:Int) - 1)=(es.length:Int) - 1:=by rw[wrap64] <;>omega
  rw[f83,w,i_in,decide_eq_true (by omega)];rfl
 obtain ⟨Q,q1,q2⟩:=i_without_loop (n+8) es.length (effs (effL es)) ls.length (ls.map rwF) ls k (by omega) (fun i hi=>by
  have h1:=(hf.at i (by omega)).1
  have h2:=keep_le (ho _ (efAt_mem (show i<es.length by omega)))
  omega) ls.length 0 (n+9) [] (by omega) (by simp) (by omega)
 rw[if_pos (Nat.zero_le _),List.drop_zero,Nat.sub_zero,List.nil_append] at q1
 subst q1
 have q2:f31.l0 (n+9) (n+9) es.length (effs (effL es)) ls.length (ls.map rwF) (k:Int) 0 [] ls.length (ls.map rwF) (ls.length:Int) 0=_:=q2
 have c1:=i_copychain (n+7) (by omega) (effL es) (by rw[effL_length];omega) (effL_small es)
 rw[effL_length] at c1
 have c1:f78 (n+9) es.length (effs (effL es))=_:=c1
 have w:IntKind.i64.wrap ((k:Int)+1)=((k+1:Nat):Int):=by rw[wrap64] <;>omega
 have d:xDelete 3 (n+9) es.length (effs (effL es)) (k:Int) ((k+1:Nat):Int)=some (es.length - 1,effs (effL (es.eraseIdx k)),es.length,effs (effL es)):=by
  show (if 0≤(k:Int)∧(k:Int)≤((k+1:Nat):Int)∧((k+1:Nat):Int)≤(es.length:Int) then _ else none)=_
  rw[if_pos (by omega)]
  simp only[Int.toNat_natCast]
  rw[(effs_cut (effL es) k).1,(effs_cut (effL es) (k+1)).2,← effs_append,← erase_split,show k+1 - k=1 by omega]
  unfold effL
  rw[map_erase]
 rw[hlen] at q2 ⊢
 rw[f31,v1,v2]
 simp only[bd_s,Bool.not_true,br_f,q2,c1,w,d]
theorem sums_loop (n:Nat) (n1:Nat) (l2:List T) (n3:Nat) (l4:List T) (n5:Nat) (l6:List T) (n7:Nat) (l8:List T) (n9:Nat) (l10:List T) (n11:Nat) (l12:List T) (b13:Bool) (n16:Nat) (l17:List T) (n18:Nat) (l19:List T) (n20:Nat) (l21:List T) (xs ys:List Nat) (hl:ys.length=xs.length) (hx:xs.length≤256):∀ (j i m:Nat),i+j=xs.length→j<m →
  f5.l0 (n+2) m n1 l2 n3 l4 n5 l6 n7 l8 n9 l10 n11 l12 b13 xs.length (fls .f32 xs) n16 l17 n18 l19 n20 l21 ys.length (fls .f32 ys) (List.zipWith (fadd .f32) xs ys).length (fls .f32 (List.zipWith (fadd .f32) xs ys)) (i:Int)=some (Sum.inr (n1,l2,n3,l4,n5,l6,n7,l8,n9,l10,n11,l12,b13,n16,l17,n18,l19,n20,l21)):=by
 have hz:(List.zipWith (fadd .f32) xs ys).length=xs.length:=by simp[hl]
 intro j
 induction j with
 | zero =>
   intro i m hi hm
   obtain ⟨m,rfl⟩:∃ k,m=k+1:=⟨m - 1,by omega⟩
   rw[f5.l0,nlt_dec (by omega)];rfl
 | succ j ih =>
   intro i m hi hm
   obtain ⟨m,rfl⟩:∃ k,m=k+1:=⟨m - 1,by omega⟩
   have h:i<xs.length:=by omega
   have hg:(List.zipWith (fadd .f32) xs ys).getD i 0=fadd .f32 (xs.getD i 0) (ys.getD i 0):=by
    simp[List.getD,List.getElem?_zipWith,List.getElem?_eq_getElem h,List.getElem?_eq_getElem (show i<ys.length by omega)]
   have s:=i_same n (w32_fadd (xs.getD i 0) (ys.getD i 0)) (w32_fadd (xs.getD i 0) (ys.getD i 0))
   rw[beq_self_eq_true] at s
   rw[f5.l0,lt_dec (show i<(List.zipWith (fadd .f32) xs ys).length by omega),in_dec (show i<(List.zipWith (fadd .f32) xs ys).length by omega),in_dec h,in_dec (show i<ys.length by omega),Int.toNat_natCast,okAt_fls h,okAt_fls (show i<ys.length by omega),okAt_fls (show i<(List.zipWith (fadd .f32) xs ys).length by omega),fAt_fls,fAt_fls,fAt_fls,hg,wrap_succ (show i<9223372036854775807 by omega)]
   simp only[br_t,gd_t,s,bd_s,Bool.not_true,br_f]
   exact ih (i+1) m (by omega) (by omega)
theorem rest_loop (n:Nat) (hn:200<n) (es:List Ef) (he:es.length≤8) (ho:∀ e∈es,e.Ok) (ls:List (List Nat)) (hf:Fits es ls) (k:Nat) (hk:k<es.length):∀ (j i m:Nat),i+j=es.length - 1→j<m →
  f5.l2 (n+3) m es.length (effs (effL es)) ls.length (ls.map rwF) (k:Int) (es.length - 1) (effs (effL (es.eraseIdx k))) (ls.eraseIdx k).length ((ls.eraseIdx k).map rwF) (i:Int)=some (Sum.inr ()):=by
 have hlen:=hf.len
 have e1:(es.eraseIdx k).length=es.length - 1:=List.length_eraseIdx_of_lt hk
 have e2:(ls.eraseIdx k).length=es.length - 1:=by rw[List.length_eraseIdx_of_lt (by omega),hlen]
 intro j
 induction j with
 | zero =>
   intro i m hi hm
   obtain ⟨m,rfl⟩:∃ k,m=k+1:=⟨m - 1,by omega⟩
   rw[f5.l2,nlt_dec (by omega)];rfl
 | succ j ih =>
   intro i m hi hm
   obtain ⟨m,rfl⟩:∃ k,m=k+1:=⟨m - 1,by omega⟩
   have h:i<es.length - 1:=by omega
   have oE:∀ (cs:List Eff) (i:Nat),i<cs.length→okAt [.int .i64] (effs cs) (i * 3+0)=true:=by
    intro cs i h
    have h0:=eff_get (c:=0) (by decide) cs i h
    simp only[effC,List.getElem?_cons_zero] at h0
    have h0:(effs cs)[i * 3]?=_:=h0
    simp[okAt,isCK,h0]
   have rest:=ih (i+1) m (by omega) (by omega)
   have same:∀ q,q<es.length→f25 (n+3) (row ls q).length (fls .f32 (row ls q)) (row ls q).length (fls .f32 (row ls q))=some true:=by
    intro q hq
    obtain ⟨f1,f2⟩:=hf.at q hq
    have hk:=keep_le (ho _ (efAt_mem hq))
    have:=l_same n (row ls q) (row ls q) f2 f2 (by omega) (by omega)
    rwa [decide_eq_true rfl] at this
   have ke:iAt (effs (effL (es.eraseIdx k))) (i * 3+0)=(eAt (effL (es.eraseIdx k)) i).kind:=kE (by rw[effL_length];omega)
   have re1:nAt ((ls.eraseIdx k).map rwF) i=(row (ls.eraseIdx k) i).length:=nR (by omega)
   have re2:lAt ((ls.eraseIdx k).map rwF) i=fls .f32 (row (ls.eraseIdx k) i):=lR (by omega)
   rw[f5.l2,lt_dec h]
   by_cases hik:k≤i
   ·rw[show decide ((i:Int)≥(k:Int))=true from decide_eq_true (by omega),wrap_succ (show i<9223372036854775807 by omega)]
    dsimp only
    rw[in_dec h,in_dec (show i+1<es.length by omega),in_dec (show i<(ls.eraseIdx k).length by omega),in_dec (show i+1<ls.length by omega),Int.toNat_natCast,Int.toNat_natCast,oE _ i (by rw[effL_length];omega),oE _ (i+1) (by rw[effL_length];omega),okR (show i<(ls.eraseIdx k).length by omega),okR (show i+1<ls.length by omega),ke,kE (show i+1<(effL es).length by rw[effL_length];omega),re1,re2,nR (show i+1<ls.length by omega),lR (show i+1<ls.length by omega),eAt_erase,row_erase,if_neg (by omega),if_neg (by omega)]
    simp only[br_t,br_f,gd_t,bne_self_eq_false,Bool.and_self,same (i+1) (by omega),bd_s,Bool.not_true]
    exact rest
   ·rw[show decide ((i:Int)≥(k:Int))=false from decide_eq_false (by omega),wrap_succ (show i<9223372036854775807 by omega),in_dec h,in_dec (show i<es.length by omega),in_dec (show i<(ls.eraseIdx k).length by omega),in_dec (show i<ls.length by omega),Int.toNat_natCast,oE _ i (by rw[effL_length];omega),oE _ i (by rw[effL_length];omega),okR (show i<(ls.eraseIdx k).length by omega),okR (show i<ls.length by omega),ke,kE (show i<(effL es).length by rw[effL_length];omega),re1,re2,nR (show i<ls.length by omega),lR (show i<ls.length by omega),eAt_erase,row_erase,if_pos (by omega),if_pos (by omega)]
    simp only[br_t,br_f,gd_t,bne_self_eq_false,Bool.and_self,same i (by omega),bd_s,Bool.not_true]
    exact rest
theorem impulse5 (n:Nat):f82 (n+2) 5=some (5,fls .f32 [1065353216,0,0,0,0]):=by
 have z:=i_zeroed n 5 (by omega)
 have z:f91 (n+1) 5=some (5,fls .f32 (List.replicate 5 0)):=z
 rw[f82,z];rfl
theorem main_ (n:Nat) (hn:900<n) (cs:List Int) (hc:∀ b∈cs,GoodI .u8 b) (ms:List Int) (hm:∀ b∈ms,GoodI .u8 b):f5 (n+200) cs.length (its .u8 cs) ms.length (its .u8 ms)=some true:=by
 rw[f5,l_long]
 cases hlong:decide (48<cs.length∨48<ms.length)
 case true=>rfl
 obtain ⟨es,hel,ho,e1⟩:=s_chain (n+188) (bytes_of hc) (by omega)
 have e1:f19 (n+199) cs.length (its .u8 cs)=_:=e1
 obtain ⟨fs,hfl,hp,e2⟩:=s_chain (n+188) (bytes_of hm) (by omega)
 have e2:f19 (n+199) ms.length (its .u8 ms)=_:=e2
 obtain ⟨xs,hxl,hxw,e3⟩:=s_r8samples (n+192) (bytes_of hm) 10 (by omega) (by omega)
 have e3:f21 (n+199) ms.length (its .u8 ms) 10=some (xs.length,fls .f32 xs):=e3
 obtain ⟨ls,hs,e4⟩:=s_state (n+192) (bytes_of hc) (by omega) es (by omega) ho
 have e4:f20 (n+199) cs.length (its .u8 cs) es.length (effs (effL es))=_:=e4
 obtain ⟨ks,ht,e5⟩:=s_state (n+192) (bytes_of hm) (by omega) fs (by omega) hp
 have e5:f20 (n+199) ms.length (its .u8 ms) fs.length (effs (effL fs))=_:=e5
 have hF:=hs.fits
 have hG:=ht.fits
 have lF:=hF.len
 have lG:=hG.len
 obtain ⟨w1,F1,n1⟩:=chain_fit es ls xs ho hF hxw
 obtain ⟨w2,F2,n2⟩:=chain_fit fs ks (chainGo es ls xs).1 hp hG w1
 obtain ⟨w3,F3,n3⟩:=chain_fit fs ks xs hp hG hxw
 have g1:=i_runchain (n+95) (by omega) es hel ho ls hF xs hxw (by omega)
 have g2:=i_runchain (n+95) (by omega) fs hfl hp ks hG (chainGo es ls xs).1 w1 (by omega)
 have g3:=i_runchain (n+95) (by omega) fs hfl hp ks hG xs hxw (by omega)
 have r1:=i_runchain_ (n+95) (by omega) es (by omega) ho ls hF xs hxw (by omega)
 have r2:=i_runchain_ (n+95) (by omega) fs (by omega) hp ks hG xs hxw (by omega)
 have q1:=F1.len
 have q2:=F2.len
 have q3:=F3.len
 rw[n1,q1] at g1 r1
 rw[n2,n1,q2] at g2
 rw[n3,q3] at g3 r2
 have g1:f22 (n+199) es.length (effs (effL es)) ls.length (ls.map rwF) xs.length (fls .f32 xs)=_:=g1
 have g2:f22 (n+199) fs.length (effs (effL fs)) ks.length (ks.map rwF) xs.length (fls .f32 (chainGo es ls xs).1)=_:=g2
 have g3:f22 (n+199) fs.length (effs (effL fs)) ks.length (ks.map rwF) xs.length (fls .f32 xs)=_:=g3
 have r1:f75 (n+198) es.length (effs (effL es)) ls.length (ls.map rwF) xs.length (fls .f32 xs)=_:=r1
 have r2:f75 (n+198) fs.length (effs (effL fs)) ks.length (ks.map rwF) xs.length (fls .f32 xs)=_:=r2
 have jn:=i_join (n+189) (by omega) es fs hel hfl ho hp
 have jn:f26 (n+199) es.length (effs (effL es)) fs.length (effs (effL fs))=_:=jn
 have mx:=i_mixed (n+197) (chainGo es ls xs).1 (chainGo fs ks xs).1 (by omega) (by omega) (by omega)
 rw[n1,n3] at mx
 have mx:f79 (n+198) xs.length (fls .f32 (chainGo es ls xs).1) xs.length (fls .f32 (chainGo fs ks xs).1)=_:=mx
 have hzl:(List.zipWith (fadd .f32) (chainGo es ls xs).1 (chainGo fs ks xs).1).length=xs.length:=by rw[List.length_zipWith,n1,n3,Nat.min_self]
 rw[hzl] at mx
 have st1:=i_isstate (n+192) es hel ho ls hF.sok (by omega)
 rw[← lF] at st1
 have st1:f24 (n+198) ls.length (effs (effL es)) ls.length (ls.map rwF)=_:=st1
 rw[lF] at st1
 have st2:=i_isstate (n+192) fs hfl hp ks hG.sok (by omega)
 have st2:f24 (n+198) fs.length (effs (effL fs)) fs.length (ks.map rwF)=_:=st2
 rw[lF] at g1 r1 e4
 rw[lG] at g2 g3 r2 e5
 have bo:f27 (n+199) es.length (effs (effL es)) fs.length (effs (effL fs)) es.length (ls.map rwF) fs.length (ks.map rwF) xs.length (fls .f32 xs)=some (xs.length,fls .f32 (List.zipWith (fadd .f32) (chainGo es ls xs).1 (chainGo fs ks xs).1),es.length,(chainGo es ls xs).2.map rwF,fs.length,(chainGo fs ks xs).2.map rwF,true):=by
  rw[f27,st1,st2,i_few,decide_eq_true (show (xs.length:Int)≤256 by omega)]
  simp only[bd_s,Bool.not_true,br_f,r1,r2,mx]
 have lp0:=fun b13 n11 l12 n16 l17 n18 l19 n20 l21=>sums_loop (n+197) cs.length (its .u8 cs) es.length (effs (effL es)) xs.length (fls .f32 xs) es.length (ls.map rwF) fs.length (ks.map rwF) n11 l12 b13 n16 l17 n18 l19 n20 l21 (chainGo es ls xs).1 (chainGo fs ks xs).1 (by omega) (by omega) (chainGo es ls xs).1.length 0 (n+199) (by omega) (by omega)
 rw[n1,n3,hzl] at lp0
 have lp0:∀ b13 n11 l12 n16 l17 n18 l19 n20 l21,f5.l0 (n+199) (n+199) cs.length (its .u8 cs) es.length (effs (effL es)) xs.length (fls .f32 xs) es.length (ls.map rwF) fs.length (ks.map rwF) n11 l12 b13 xs.length (fls .f32 (chainGo es ls xs).1) n16 l17 n18 l19 n20 l21 xs.length (fls .f32 (chainGo fs ks xs).1) xs.length (fls .f32 (List.zipWith (fadd .f32) (chainGo es ls xs).1 (chainGo fs ks xs).1)) 0=_:=lp0
 have t1:=i_runchain (n+95) (by omega) [] (by simp) (by simp) [] trivial xs hxw (by omega)
 have t1:f22 (n+199) 0 (reps 0 [(T.int .i64 (0:Int)),(T.int .i64 (0:Int)),(T.lst 0 [])]) 0 (reps 0 [(T.lst 0 [])]) xs.length (fls .f32 xs)=some (xs.length,fls .f32 xs,0,[],true):=t1
 have nw:=i_newstate (n+195) es (by omega) ho (by omega)
 have nw:f80 (n+198) es.length (effs (effL es))=_:=nw
 have nl:(es.map newRow).length=es.length:=by simp
 have vc:=i_validchain (n+193) es hel ho (by omega)
 have vc:f23 (n+198) es.length (effs (effL es))=_:=vc
 have t2:f28 (n+199) es.length (effs (effL es))=some (es.length,(es.map newRow).map rwF,true):=by
  rw[f28,vc,nw,nl];rfl
 have hI:AllW [1065353216,0,0,0,0]:=by
  intro y hy
  simp only[List.mem_cons,List.not_mem_nil,or_false] at hy
  rcases hy with rfl | rfl | rfl | rfl | rfl
  ·exact w32_one
  all_goals exact w32_zero
 have hN:=(new_ok es).fits
 obtain ⟨w4,F4,n4⟩:=chain_fit es (es.map newRow) [1065353216,0,0,0,0] ho hN hI
 have n4:(chainGo es (es.map newRow) [1065353216,0,0,0,0]).1.length=5:=n4
 have q4:=F4.len
 have r4:=i_runchain_ (n+95) (by omega) es (by omega) ho (es.map newRow) hN [1065353216,0,0,0,0] hI (by simp)
 have g4:=i_runchain (n+95) (by omega) es hel ho (es.map newRow) hN [1065353216,0,0,0,0] hI (by simp)
 rw[n4,q4,nl] at r4 g4
 have r4:f75 (n+198) es.length (effs (effL es)) es.length ((es.map newRow).map rwF) 5 (fls .f32 [1065353216,0,0,0,0])=_:=r4
 have g4:f22 (n+199) es.length (effs (effL es)) es.length ((es.map newRow).map rwF) 5 (setN (setN (setN (setN (setN (reps 5 [(T.flt .f32 0)]) 0 [(T.flt .f32 1065353216)]) 1 [(T.flt .f32 0)]) 2 [(T.flt .f32 0)]) 3 [(T.flt .f32 0)]) 4 [(T.flt .f32 0)])=_:=g4
 have im:=impulse5 (n+196)
 have im:f82 (n+198) 5=_:=im
 have ct:f81 (n+198) 5=some true:=by rw[f81,i_in];rfl
 have t3:f29 (n+199) es.length (effs (effL es)) 5=some (5,fls .f32 (chainGo es (es.map newRow) [1065353216,0,0,0,0]).1,true):=by
  rw[f29,vc,ct,nw,im,nl]
  simp only[bd_s,Bool.not_true,br_f,r4]
 have hb:∀ e∈effL es,0≤e.len∧e.len≤64:=by
  intro e he
  obtain ⟨f,hf',rfl⟩:=List.mem_map.1 he
  exact eff_len (ho f hf')
 have la:=i_late_loop (n+198) es.length (effs (effL es)) (effL es) (by rw[effL_length];omega) hb (effL es).length 0 (n+198) 0 (by omega) (by omega) (by omega) (by rw[effL_length];omega)
 rw[effL_length,List.drop_zero,Int.zero_add] at la
 have la:f30.l0 (n+198) (n+198) es.length (effs (effL es)) 0 es.length (effs (effL es)) (es.length:Int) 0=_:=la
 have t5:f30 (n+199) es.length (effs (effL es))=some (latM (effL es),true):=by
  rw[f30,vc]
  simp only[bd_s,Bool.not_true,br_f,la]
 have t6:=l_same (n+196) xs xs hxw hxw (by omega) (by omega)
 rw[decide_eq_true rfl] at t6
 have t6:f25 (n+199) xs.length (fls .f32 xs) xs.length (fls .f32 xs)=_:=t6
 have t7:=l_same (n+196) _ _ w4 w4 (by omega) (by omega)
 rw[decide_eq_true rfl,n4] at t7
 have t7:f25 (n+199) 5 (fls .f32 (chainGo es (es.map newRow) [1065353216,0,0,0,0]).1) 5 (fls .f32 (chainGo es (es.map newRow) [1065353216,0,0,0,0]).1)=_:=t7
 have t8:=l_late_loop (n+199) cs.length (its .u8 cs) (effL es) es.length (ls.map rwF) (latM (effL es)) (by rw[effL_length];omega) hb (effL es).length 0 (n+199) 0 (by omega) (by omega) (by omega) (by rw[effL_length];omega)
 rw[effL_length,List.drop_zero,Int.zero_add] at t8
 have t8:f5.l1 (n+199) (n+199) cs.length (its .u8 cs) es.length (effs (effL es)) es.length (ls.map rwF) (latM (effL es)) 0 0=_:=t8
 have wr:IntKind.i64.wrap ((es.length:Int)+(fs.length:Int))=(es.length:Int)+(fs.length:Int):=by rw[wrap64] <;>omega
 have wm:IntKind.i64.wrap ((es.length:Int) - 1)=(es.length:Int) - 1:=by rw[wrap64] <;>omega
 have j1:es.length+fs.length≤8→f22 (n+199) (es++fs).length (effs (effL (es++fs))) (0+es.length+fs.length) (reps 0 [(T.lst 0 [])]++ls.map rwF++ks.map rwF) xs.length (fls .f32 xs)=some (xs.length,fls .f32 (chainGo fs ks (chainGo es ls xs).1).1,es.length+fs.length,((chainGo es ls xs).2++(chainGo fs ks (chainGo es ls xs).1).2).map rwF,true):=by
  intro h8
  have g:=i_runchain (n+95) (by omega) (es++fs) (by rw[List.length_append];exact h8) (fun e he=>(List.mem_append.1 he).elim (ho e) (hp e)) (ls++ks) (fits_two hF hG) xs hxw (by omega)
  rw[chain_two es ls fs ks xs lF,n2,n1] at g
  simp only[List.length_append,q1,q2,lF,lG,List.map_append] at g
  rw[Nat.zero_add,List.length_append,List.map_append]
  exact g
 have t9:=l_same (n+196) _ _ w2 w2 (by omega) (by omega)
 rw[decide_eq_true rfl,n2,n1] at t9
 have t9:f25 (n+199) xs.length (fls .f32 (chainGo fs ks (chainGo es ls xs).1).1) xs.length (fls .f32 (chainGo fs ks (chainGo es ls xs).1).1)=_:=t9
 have bb1:Nat.ble (0+es.length) 2147483648=true:=by rw[Nat.ble_eq];omega
 have bb2:Nat.ble (0+es.length+fs.length) 2147483648=true:=by rw[Nat.ble_eq];omega
 have cast:((es.length+fs.length:Nat):Int)=(es.length:Int)+(fs.length:Int):=by omega
 rcases Nat.eq_zero_or_pos es.length with h0 | hpos
 ·have c0:(((es.length:Nat):Int)==0)=true:=by rw[h0];rfl
  have c1:(latM (effL es)==0)=true:=by
   have:es=[]:=List.length_eq_zero_iff.1 h0
   subst this;rfl
  by_cases h8:es.length+fs.length≤8
  ·rw[if_pos h8] at jn
   have d8:decide ((es.length:Int)+(fs.length:Int)≤8)=true:=decide_eq_true (by omega)
   simp only[br_f,br_t,bd_s,e1,e2,e3,lF,lG,e4,e5,jn,g1,g2,g3,bo,wr,d8,beq_self_eq_true,Bool.not_true,bne_self_eq_false,lp0,sm_r,bb1,bb2,gd_t,j1 h8,t9,cast,t1,t2,t3,g4,t5,t6,t7,t8,c0,c1]
  ·rw[if_neg h8] at jn
   have d8:decide ((es.length:Int)+(fs.length:Int)≤8)=false:=decide_eq_false (by omega)
   simp only[br_f,br_t,bd_s,e1,e2,e3,lF,lG,e4,e5,jn,g1,g2,g3,bo,wr,d8,beq_self_eq_true,Bool.not_true,bne_self_eq_false,lp0,sm_r,t1,t2,t3,g4,t5,t6,t7,t8,c0,c1]
 ·have c0:(((es.length:Nat):Int)==0)=false:=by rw[beq_eq_false_iff_ne];omega
  obtain ⟨a,ha,e9⟩:=l_at (n+198) (bytes_of hc) (i:=40) (k:=(es.length:Int)) (by omega) (by omega)
  obtain ⟨a,rfl⟩:=Int.eq_ofNat_of_zero_le ha.1
  have hae:a<es.length:=by omega
  have e9:f14 (n+199) cs.length (its .u8 cs) 40 (es.length:Int)=some (a:Int):=e9
  have wo:=i_without (n+189) (by omega) es hel ho ls hF a hae
  rw[lF] at wo
  have wo:f31 (n+199) es.length (effs (effL es)) es.length (ls.map rwF) (a:Int)=_:=wo
  have el1:(es.eraseIdx a).length=es.length - 1:=List.length_eraseIdx_of_lt hae
  have fE:=fits_strike a hF
  have is:=i_isstate (n+193) (es.eraseIdx a) (by omega) (fun e he=>ho e (List.mem_of_mem_eraseIdx he)) (ls.eraseIdx a) fE.sok (by omega)
  have lE:=fE.len
  rw[el1] at is
  have is:f24 (n+199) (es.length - 1) (effs (effL (es.eraseIdx a))) (es.length - 1) ((ls.eraseIdx a).map rwF)=_:=is
  rw[lE,el1] at wo
  have rl:=rest_loop (n+196) (by omega) es hel ho ls hF a hae (es.length - 1) 0 (n+199) (by omega) (by omega)
  rw[lE,el1,lF] at rl
  have rl:f5.l2 (n+199) (n+199) es.length (effs (effL es)) es.length (ls.map rwF) (a:Int) (es.length - 1) (effs (effL (es.eraseIdx a))) (es.length - 1) ((ls.eraseIdx a).map rwF) 0=_:=rl
  have cm:(((es.length - 1:Nat):Int))=(es.length:Int) - 1:=by omega
  by_cases h8:es.length+fs.length≤8
  ·rw[if_pos h8] at jn
   have d8:decide ((es.length:Int)+(fs.length:Int)≤8)=true:=decide_eq_true (by omega)
   simp only[br_f,br_t,bd_s,e1,e2,e3,lF,lG,e4,e5,jn,g1,g2,g3,bo,wr,d8,beq_self_eq_true,Bool.not_true,bne_self_eq_false,lp0,sm_r,bb1,bb2,gd_t,j1 h8,t9,cast,t1,t2,t3,g4,t5,t6,t7,t8,c0,e9,wo,cm,wm,is,rl]
  ·rw[if_neg h8] at jn
   have d8:decide ((es.length:Int)+(fs.length:Int)≤8)=false:=decide_eq_false (by omega)
   simp only[br_f,br_t,bd_s,e1,e2,e3,lF,lG,e4,e5,jn,g1,g2,g3,bo,wr,d8,beq_self_eq_true,Bool.not_true,bne_self_eq_false,lp0,sm_r,t1,t2,t3,g4,t5,t6,t7,t8,c0,e9,wo,cm,wm,is,rl]
theorem exact_ (cs:List Int) (hc:∀ b∈cs,GoodI .u8 b) (lc:cs.length≤maxLen) (ms:List Int) (hm:∀ b∈ms,GoodI .u8 b) (lm:ms.length≤maxLen):∃ n,f5 n cs.length (its .u8 cs) ms.length (its .u8 ms)=some true:=by
 exact ⟨1200,main_ 1000 (by omega) cs hc ms hm⟩
theorem law5:∀ args,LawArgs E Try.f5.params.toList args→∃ N os,evalFn E N 5 args=some ⟨[⟨false,[.leaf],[.bool true]⟩],os⟩:=by
 intro args h0
 have hp:Try.f5.params.toList=[22,22]:=by kernel_rfl
 rw[hp] at h0
 obtain ⟨ts0,r0,rfl,hw0,h1⟩:=h0.cons_inv (d:=⟨false,1,24,[.sl .own [.leaf]],[.lst 0 []],.slc 5⟩) (by kernel_rfl)
 obtain ⟨n0,cs0,rfl,gl0,hs0⟩:=hw0.slc_inv (e:=5) (d:=⟨false,1,24,[.sl .own [.leaf]],[.lst 0 []],.slc 5⟩) (by kernel_rfl) rfl
 obtain ⟨a0,rfl,rfl,g0⟩:=hs0.ints (k:=.u8) (d:=⟨false,1,1,[.leaf],[.int .u8 0],.int .u8⟩) (by kernel_rfl) rfl
 obtain ⟨ts1,r1,rfl,hw1,h2⟩:=h1.cons_inv (d:=⟨false,1,24,[.sl .own [.leaf]],[.lst 0 []],.slc 5⟩) (by kernel_rfl)
 obtain ⟨n1,cs1,rfl,gl1,hs1⟩:=hw1.slc_inv (e:=5) (d:=⟨false,1,24,[.sl .own [.leaf]],[.lst 0 []],.slc 5⟩) (by kernel_rfl) rfl
 obtain ⟨a1,rfl,rfl,g1⟩:=hs1.ints (k:=.u8) (d:=⟨false,1,1,[.leaf],[.int .u8 0],.int .u8⟩) (by kernel_rfl) rfl
 obtain rfl:=h2.nil_inv
 obtain ⟨N,hN⟩:=exact_ a0 g0 gl0 a1 g1 gl1
 exact ⟨N,_,f5.ok N (a0.length,its .u8 a0,a1.length,its .u8 a1) true hN⟩
end Go.Proofs.Ytdobhipbgpiceaa.D
end
section
namespace Go.Proofs.Ytdobhipbgpiceaa.fnChainParts
open Go Go.ChangeShapes Go.WideShapes Go.ChangeAt Go.RowKit Go.Desk
set_option linter.unusedVariables false
theorem own:ownKnob Try.prog.godebug=none:=by kernel_rfl
theorem laidOut:laidOutB Try.prog=true:=by kernel_rfl
set_option maxRecDepth 100000 in
theorem lifted (os:Os) (started:os.Started) (H:Type) (enc:TypeId × Value→H) :
  ReturnsInHanded {} Try.checked os 5 .any (Rows.fnChainPartsSpec.pre6 enc Try.prog Try.f5 Rows.fnChainPartsRow.domain false) (Rows.fnChainPartsSpec.post enc Try.prog Try.f5 false true false false):=by
 refine returnsInHanded_of_change (C:=Try.checked) own started (by kernel_rfl) Try.func5
  (ChangeSpec.witness6 (enc:=enc) (C:=Try.checked) false ⟨#[],#[.slice none 0 0,.slice none 0 0],[]⟩ 8 (by kernel_rfl) (by kernel_rfl) (by kernel_rfl) (by kernel_rfl)) ?_
 intro W base args ds gs before hval hW hcnd _
 exact law_contract (c:=D.c5) Try.checked.mixed D.tysOk D.fnOk Try.func5 (by kernel_rfl) (by kernel_rfl) (by kernel_rfl) Try.underlying4 rfl
  (fun ds h=>by
    rw[show Try.f5.params.toList.length=2 by kernel_rfl] at h
    match ds,h with
    | [_,_],_=>rfl)
  laidOut (N:=8) (by kernel_rfl) (by kernel_rfl) D.law5 hval hW
theorem over:Rows.fnChainPartsRow.holds Try.pinned (OpenSpec.ofChange Rows.fnChainPartsSpec) :=
 OpenClaim.holds_of_wide 5 Try.f5 rfl rfl rfl rfl rfl rfl rfl ⟨rfl,rfl,rfl,rfl,rfl⟩ rfl rfl rfl rfl rfl (by kernel_rfl) Try.func5 (by kernel_rfl)
  (of_decide_eq_true (by kernel_rfl)) (by unfold Func.isWrapper;first | (rw[if_pos (by decide +kernel)];kernel_rfl) | (rw[if_neg (by decide +kernel)];exact ⟨rfl,rfl⟩))
  (fun os started H enc _=>lifted os started H enc)
theorem proved:Rows.FnChainPartsSaid:=over
#print axioms proved
end Go.Proofs.Ytdobhipbgpiceaa.fnChainParts
namespace Go.Proofs.Ytdobhipbgpiceaa
theorem fnChainParts_holds:Rows.FnChainPartsSaid:=fnChainParts.proved
end Go.Proofs.Ytdobhipbgpiceaa
end
