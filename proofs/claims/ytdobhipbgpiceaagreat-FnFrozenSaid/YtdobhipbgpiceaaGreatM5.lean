/- FnFrozen holds: for every input the law returns true, and its arguments read as before. -/
import Derived.Test.YtdobhipbgpiceaaGreatM5e
set_option linter.all false
set_option linter.unusedVariables false
open List (all_cons all_eq_true any_cons any_eq_false any_eq_true any_map append_assoc append_nil cons_append count_append drop_drop drop_eq_getElem_cons drop_eq_nil_of_le drop_left' drop_zero filter_cons_of_neg filter_cons_of_pos flatMap_append flatMap_cons flatMap_def flatMap_singleton flatten_cons flatten_nil foldl_cons length_append length_cons length_drop length_eq_one_iff length_eq_zero_iff length_map length_nil length_replicate length_set length_singleton length_take mapM_cons map_append map_congr_left map_cons map_map map_nil mem_append mem_append_left mem_cons mem_cons_of_mem mem_cons_self mem_filter mem_flatten mem_map mem_of_mem_drop mem_or_eq_of_mem_set mem_range mem_replicate mem_singleton nil_append nodup_append nodup_cons not_mem_nil perm_append_comm perm_iff_count perm_middle replicate_succ take_append_drop take_left' take_length take_of_length_le take_succ_cons take_zero)
section
namespace Go.Proofs.YtdobhipbgpiceaaGreat.D
open Go Go.Desk
set_option linter.unusedVariables false
theorem Ys (n:Nat) (cs:List BM) (hn:100<n):f63 (n+5) cs.length (AH cs)=some (FJ cs):=by
 rw[f63]
 unfold FJ
 by_cases h:cs.length≤8
 ·have e:=QR n cs h cs.length 0 (n+4) (by omega) (by omega)
  have e:f63.l0 (n+4) (n+4) cs.length (AH cs) 0=_:=e
  rw[e,decide_eq_true h,drop_zero]
  cases cs.all IV
  ·rfl
  ·simp only[if_true,AJ,ZX,Bool.true_and,decide_eq_true (show (cs.length:Int)≤8 by omega)]
 ·have e:f63.l0 (n+4) (n+4) cs.length (AH cs) 0=some (Sum.inr (cs.length,AH cs)):=by
   rw[show n+4=(n+3)+1 from rfl,f63.l0,decide_eq_true (show (0:Int)<(cs.length:Int) by omega),decide_eq_false (show ¬ (cs.length:Int)≤8 by omega)]
   rfl
  rw[e,decide_eq_false h]
  simp only[AJ,ZX,Bool.false_and,decide_eq_false (show ¬ (cs.length:Int)≤8 by omega)]
structure Aq where
 es:List BM
 tn:Int
 pan:Nat
 mute:Bool
 solo:Bool
def Ul (s:Aq):List T:=[.lst s.es.length (AH s.es),.int .i64 s.tn,.flt .f32 s.pan,.bool s.mute,.bool s.solo]
def AG (ss:List Aq):List T:=ss.flatMap Ul
def Ai (ss:List Aq) (i:Nat):Aq:=ss.getD i ⟨[],0,0,false,false⟩
theorem FS {c:Nat} (hc:c<5):∀ (ts:List Aq) (i:Nat),i<ts.length→(AG ts)[i * 5+c]?=(Ul (Ai ts i))[c]?
 | [],i,h=>by simp at h
 | t::ts,0,_=>by
   show (Ul t++AG ts)[0 * 5+c]?=_
   rw[List.getElem?_append_left (by simp[Ul];omega),Nat.zero_mul,Nat.zero_add];rfl
 | t::ts,i+1,h=>by
   show (Ul t++AG ts)[(i+1) * 5+c]?=_
   rw[List.getElem?_append_right (by simp[Ul];omega),show (i+1) * 5+c - (Ul t).length=i * 5+c by simp[Ul];omega,FS hc ts i (by simpa using h)]
   rfl
section
variable {ts:List Aq} {i:Nat} (h:i<ts.length)
include h
theorem Rl:AI [.lst,.int .i64,.flt .f32,.bool,.bool] (AG ts) (i * 5+0)=true:=by
 have h0:=FS (c:=0) (by decide) ts i h
 have h1:=FS (c:=1) (by decide) ts i h
 have h2:=FS (c:=2) (by decide) ts i h
 have h3:=FS (c:=3) (by decide) ts i h
 have h4:=FS (c:=4) (by decide) ts i h
 simp only[Ul,List.getElem?_cons_zero,List.getElem?_cons_succ] at h0 h1 h2 h3 h4
 rw[Nat.add_zero] at h0
 simp[AI,Nat.add_assoc,h0,h1,h2,h3,h4,MY]
theorem bM:GZ (AG ts) (i * 5+0)=(Ai ts i).es.length:=by unfold GZ;rw[FS (c:=0) (by decide) ts i h];rfl
theorem fS:HD (AG ts) (i * 5+0)=AH (Ai ts i).es:=by unfold HD;rw[FS (c:=0) (by decide) ts i h];rfl
theorem jv:Ed (AG ts) (i * 5+0+1)=(Ai ts i).tn:=by unfold Ed;rw[show i * 5+0+1=i * 5+1 from rfl,FS (c:=1) (by decide) ts i h];rfl
theorem jX:BR (AG ts) (i * 5+0+1+1)=(Ai ts i).pan:=by unfold BR;rw[show i * 5+0+1+1=i * 5+2 from rfl,FS (c:=2) (by decide) ts i h];rfl
theorem jb:KA (AG ts) (i * 5+0+1+1+1)=(Ai ts i).mute:=by unfold KA;rw[show i * 5+0+1+1+1=i * 5+3 from rfl,FS (c:=3) (by decide) ts i h];rfl
theorem ie:KA (AG ts) (i * 5+0+1+1+1+1)=(Ai ts i).solo:=by unfold KA;rw[show i * 5+0+1+1+1+1=i * 5+4 from rfl,FS (c:=4) (by decide) ts i h];rfl
theorem OK:ts.drop i=Ai ts i::ts.drop (i+1):=by
 rw[drop_eq_getElem_cons h]
 simp[Ai,List.getD,h]
theorem E4:Ai ts i∈ts:=by
 have:Ai ts i=ts[i]:=by simp[Ai,List.getD,h]
 rw[this];exact List.getElem_mem h
end
def Iw (x:Nat):Bool:=Ly .f32 x 0&&VQ .f32 x 1065353216
def YV (s:Aq):Bool:=FJ s.es&&(decide (-2000≤s.tn∧s.tn≤2000)&&Iw s.pan)
def YC (n:Nat) (c:BM):Bool:=decide (0≤c.kind∧c.kind≤(n:Int) - 1)&&(decide (0≤c.len∧c.len≤256)&&decide (c.nums.length≤256))
def DU (cl:List BM) (ss:List Aq):Bool:=decide (1≤ss.length∧ss.length≤8)&&(decide (cl.length≤12)&&(ss.all YV&&cl.all (YC ss.length)))
theorem Zh (n x:Nat):f90 (n+1) x=some (Iw x):=by
 rw[f90];unfold Iw;cases Ly .f32 x 0 <;>rfl
theorem d7 (n x:Nat):f103 (n+1) x=some (Iw x):=by
 rw[f103];unfold Iw;cases Ly .f32 x 0 <;>rfl
theorem UZ (n:Nat) (t:Int):f89 (n+2) t=some (decide (-2000≤t∧t≤2000)):=by rw[f89,V1];rfl
theorem R3 (n:Nat) (t:Int):f51 (n+2) t=some (decide (0≤t∧t≤256)):=by rw[f51,V1];rfl
theorem Wf (n:Nat) (t:Int) (k:Nat) (hk:k≤1099511627776):f71 (n+2) t (k:Int)=some (decide (0≤t∧t≤(k:Int) - 1)):=by
 rw[f71,show IntKind.i64.wrap ((k:Int) - 1)=(k:Int) - 1 by rw[BD] <;>omega,V1];rfl
theorem bV (n:Nat) (t:Int):f87 (n+2) t=some (decide (1≤t∧t≤8)):=by rw[f87,V1];rfl
theorem aJ {ss:List Aq} {i:Nat} (h:i<ss.length):(ss.drop i).all YV=(YV (Ai ss i)&&(ss.drop (i+1)).all YV):=by
 rw[OK h,all_cons]
theorem ak {cs:List BM} {i n:Nat} (h:i<cs.length):(cs.drop i).all (YC n)=(YC n (Cg cs i)&&(cs.drop (i+1)).all (YC n)):=by
 rw[Dl h,all_cons]
theorem Yf (n:Nat) (hn:100<n) (N:Nat) (ts:List T) (M:Nat) (us:List T) (ss:List Aq) (hl:ss.length≤100):∀ (j i m:Nat),i+j=ss.length→j<m →
  f50.l0 (n+5) m N ts M us ss.length (AG ss) (ss.length:Int) (i:Int)=some (if (ss.drop i).all YV then Sum.inr (N,ts,M,us) else Sum.inl false):=by
 intro j
 induction j with
 | zero =>
   intro i m hi hm
   obtain ⟨m,rfl⟩:=zc m (by omega)
   rw[f50.l0,A8 (by omega),drop_eq_nil_of_le (by omega)];rfl
 | succ j ih =>
   intro i m hi hm
   obtain ⟨m,rfl⟩:=zc m (by omega)
   have h:i<ss.length:=by omega
   rw[f50.l0,Bf h,A1 h,zT,Rl h,aJ h]
   simp only[AV,zA,Ay,bM h,fS h,jv h,jX h,ar n (Ai ss i).es hn,UZ (n+3),Zh (n+4),AJ,AZ (show i<9223372036854775807 by omega)]
   unfold YV
   cases FJ (Ai ss i).es
   ·rfl
   ·cases decide (-2000≤(Ai ss i).tn∧(Ai ss i).tn≤2000)
    ·rfl
    ·cases Iw (Ai ss i).pan
     ·rfl
     ·simp only[Bool.not_true,Af,Bool.true_and]
      exact ih (i+1) m (by omega) (by omega)
theorem YA (n:Nat) (N:Nat) (ts:List T) (M:Nat) (us:List T) (hM:M≤1000) (cs:List BM) (hl:cs.length≤100):∀ (j i m:Nat),i+j=cs.length→j<m →
  f50.l1 (n+2) m N ts M us cs.length (AH cs) (cs.length:Int) (i:Int)=some (if (cs.drop i).all (YC M) then Sum.inr () else Sum.inl false):=by
 intro j
 induction j with
 | zero =>
   intro i m hi hm
   obtain ⟨m,rfl⟩:=zc m (by omega)
   rw[f50.l1,A8 (by omega),drop_eq_nil_of_le (by omega)];rfl
 | succ j ih =>
   intro i m hi hm
   obtain ⟨m,rfl⟩:=zc m (by omega)
   have h:i<cs.length:=by omega
   have e3:decide (((Cg cs i).nums.length:Int)≤256)=decide ((Cg cs i).nums.length≤256):=by rw[decide_eq_decide];omega
   rw[f50.l1,Bf h,A1 h,zT,U5 h,ak h]
   simp only[AV,zA,Ay,kE h,gE h,nE h,lE h,Wf n (Cg cs i).kind M (by omega),R3 n,W2,e3,AJ,AZ (show i<9223372036854775807 by omega)]
   unfold YC
   cases decide (0≤(Cg cs i).kind∧(Cg cs i).kind≤(M:Int) - 1)
   ·rfl
   ·cases decide (0≤(Cg cs i).len∧(Cg cs i).len≤256)
    ·rfl
    ·cases decide ((Cg cs i).nums.length≤256)
     ·rfl
     ·simp only[Bool.not_true,Af,Bool.true_and]
      exact ih (i+1) m (by omega) (by omega)
theorem J9 (n:Nat) (cl:List BM) (ss:List Aq) (hn:200<n):f50 (n+6) cl.length (AH cl) ss.length (AG ss)=some (DU cl ss):=by
 rw[f50,MW (n+4)]
 simp only[AJ,bV (n+3)]
 unfold DU
 by_cases h1:1≤ss.length∧ss.length≤8
 ·rw[decide_eq_true h1,decide_eq_true (show (1:Int)≤(ss.length:Int)∧(ss.length:Int)≤8 by omega)]
  by_cases h2:cl.length≤12
  ·rw[decide_eq_true h2,decide_eq_false (show ¬ (cl.length:Int)>12 by omega)]
   have e1:=Yf n (by omega) cl.length (AH cl) ss.length (AG ss) ss (by omega) ss.length 0 (n+5) (by omega) (by omega)
   have e1:f50.l0 (n+5) (n+5) cl.length (AH cl) ss.length (AG ss) ss.length (AG ss) (ss.length:Int) 0=_:=e1
   have e2:=YA (n+3) cl.length (AH cl) ss.length (AG ss) (by omega) cl (by omega) cl.length 0 (n+5) (by omega) (by omega)
   have e2:f50.l1 (n+5) (n+5) cl.length (AH cl) ss.length (AG ss) cl.length (AH cl) (cl.length:Int) 0=_:=e2
   simp only[Bool.not_true,Af,e1,drop_zero,Bool.true_and]
   cases ss.all YV
   ·rfl
   ·simp only[if_true,AJ,ZX,e2,drop_zero,Bool.true_and]
    cases cl.all (YC ss.length) <;>rfl
  ·rw[decide_eq_false h2,decide_eq_true (show (cl.length:Int)>12 by omega)];rfl
 ·rw[decide_eq_false h1,decide_eq_false (show ¬ ((1:Int)≤(ss.length:Int)∧(ss.length:Int)≤8) by omega)];rfl
theorem aU (n:Nat) (a:Nat) (b:List T) (c:Int) (d:Nat) (e f:Bool) (g:Nat) (h:List T):∃ x y,f62 (n+1) a b c d e f g h=some (g,h,c,d,e,f,x,y):=by
 rw[f62];exact ⟨_,_,rfl⟩
theorem Yj (n:Nat) (hn:10<n) (c:Int) (d:Nat) (e f:Bool):f64 (n+2) 1 (AF (reps 1 [(T.lst 0 []),(T.int .i64 (0:Int)),(T.flt .f32 0),(T.bool false),(T.bool false)]) 0 [(T.lst 0 (reps 0 [(T.flt .f32 0)])),(T.int .i64 c),(T.flt .f32 d),(T.bool e),(T.bool f)])=some (decide (-2000≤c∧c≤2000)&&Iw d):=by
 obtain ⟨n,rfl⟩:∃ k,n=k+2:=⟨n - 2,by omega⟩
 have hs:AF (reps 1 [(T.lst 0 []),(T.int .i64 (0:Int)),(T.flt .f32 0),(T.bool false),(T.bool false)]) 0 [(T.lst 0 (reps 0 [(T.flt .f32 0)])),(T.int .i64 c),(T.flt .f32 d),(T.bool e),(T.bool f)]=[(T.lst 0 []),(T.int .i64 c),(T.flt .f32 d),(T.bool e),(T.bool f)]:=rfl
 have l1:f64.l0 (n+2+1) (n+2+1) 1 [(T.lst 0 []),(T.int .i64 c),(T.flt .f32 d),(T.bool e),(T.bool f)] ((1:Nat):Int) 0=some (if decide (-2000≤c∧c≤2000)&&Iw d then Sum.inr (1,[(T.lst 0 []),(T.int .i64 c),(T.flt .f32 d),(T.bool e),(T.bool f)]) else Sum.inl false):=by
  rw[f64.l0]
  have k0:decide ((0:Int)<((1:Nat):Int))=true:=rfl
  have k1:decide ((0:Int)≤0∧(0:Int)<((1:Nat):Int))=true:=rfl
  have k2:AI [.lst,.int .i64,.flt .f32,.bool,.bool] [(T.lst 0 []),(T.int .i64 c),(T.flt .f32 d),(T.bool e),(T.bool f)] (Int.toNat 0 * 5+0)=true:=rfl
  have k3:GZ [(T.lst 0 []),(T.int .i64 c),(T.flt .f32 d),(T.bool e),(T.bool f)] (Int.toNat 0 * 5+0)=0:=rfl
  have k4:Ed [(T.lst 0 []),(T.int .i64 c),(T.flt .f32 d),(T.bool e),(T.bool f)] (Int.toNat 0 * 5+0+1)=c:=rfl
  have k5:BR [(T.lst 0 []),(T.int .i64 c),(T.flt .f32 d),(T.bool e),(T.bool f)] (Int.toNat 0 * 5+0+1+1)=d:=rfl
  rw[k0,k1,k2,k3,k4,k5]
  simp only[AV,zA,Ay,XD,AJ,Xn,d7]
  cases decide (-2000≤c∧c≤2000)
  ·rfl
  ·cases Iw d
   ·rfl
   ·show f64.l0 (n+2+1) (n+2) 1 _ ((1:Nat):Int) 1=_
    rw[f64.l0];rfl
 rw[hs,f64,l1]
 cases decide (-2000≤c∧c≤2000)&&Iw d <;>rfl
theorem Xa (n:Nat) (hn:100<n) (N:Nat) (ts:List T) (i5:Int) (ss:List Aq) (hl:ss.length≤100):∀ (j i m:Nat),i+j=ss.length→j<m →
  f27.l0 (n+5) m N ts ss.length (AG ss) i5 (ss.length:Int) (i:Int)=some (if (ss.drop i).all YV then Sum.inr (N,ts,ss.length,AG ss,i5) else Sum.inl false):=by
 intro j
 induction j with
 | zero =>
   intro i m hi hm
   obtain ⟨m,rfl⟩:=zc m (by omega)
   rw[f27.l0,A8 (by omega),drop_eq_nil_of_le (by omega)];rfl
 | succ j ih =>
   intro i m hi hm
   obtain ⟨m,rfl⟩:=zc m (by omega)
   have h:i<ss.length:=by omega
   rw[f27.l0,Bf h,A1 h,zT,Rl h,aJ h]
   simp only[AV,zA,Ay,bM h,fS h,jv h,jX h,jb h,ie h]
   obtain ⟨x,y,e1⟩:=aU (n+4) (Ai ss i).es.length (AH (Ai ss i).es) (Ai ss i).tn (Ai ss i).pan (Ai ss i).mute (Ai ss i).solo 0 (reps 0 [(T.flt .f32 0)])
   rw[e1]
   have e2:=Yj (n+3) (by omega) (Ai ss i).tn (Ai ss i).pan (Ai ss i).mute (Ai ss i).solo
   simp only[AJ,Ys n (Ai ss i).es hn,e2,AZ (show i<9223372036854775807 by omega)]
   unfold YV
   cases FJ (Ai ss i).es
   ·rfl
   ·cases decide (-2000≤(Ai ss i).tn∧(Ai ss i).tn≤2000)&&Iw (Ai ss i).pan
    ·rfl
    ·simp only[Bool.not_true,Af,Bool.true_and]
     exact ih (i+1) m (by omega) (by omega)
theorem Xp (n:Nat) (N:Nat) (ts:List T) (M:Nat) (hM:M≤1000) (cs:List BM) (hl:cs.length≤100):∀ (j i m:Nat),i+j=cs.length→j<m →
  f27.l1 (n+2) m cs.length (AH cs) N ts (M:Int) (cs.length:Int) (i:Int)=some (if (cs.drop i).all (YC M) then Sum.inr () else Sum.inl false):=by
 intro j
 induction j with
 | zero =>
   intro i m hi hm
   obtain ⟨m,rfl⟩:=zc m (by omega)
   rw[f27.l1,A8 (by omega),drop_eq_nil_of_le (by omega)];rfl
 | succ j ih =>
   intro i m hi hm
   obtain ⟨m,rfl⟩:=zc m (by omega)
   have h:i<cs.length:=by omega
   have e3:decide (((Cg cs i).nums.length:Int)≤256)=decide ((Cg cs i).nums.length≤256):=by rw[decide_eq_decide];omega
   rw[f27.l1,Bf h,A1 h,zT,U5 h,ak h,show IntKind.i64.wrap ((M:Int) - 1)=(M:Int) - 1 by rw[BD] <;>omega]
   simp only[AV,zA,Ay,kE h,gE h,nE h,lE h,Xn (n+1),XD,e3,AJ,AZ (show i<9223372036854775807 by omega)]
   unfold YC
   cases decide (0≤(Cg cs i).kind∧(Cg cs i).kind≤(M:Int) - 1)
   ·rfl
   ·cases decide (0≤(Cg cs i).len∧(Cg cs i).len≤256)
    ·rfl
    ·cases decide ((Cg cs i).nums.length≤256)
     ·rfl
     ·simp only[Bool.not_true,Af,Bool.true_and]
      exact ih (i+1) m (by omega) (by omega)
theorem Wc (n:Nat) (cl:List BM) (ss:List Aq) (hn:200<n):f27 (n+6) cl.length (AH cl) ss.length (AG ss)=some (DU cl ss):=by
 rw[f27]
 simp only[AJ,Xn (n+4)]
 unfold DU
 by_cases h1:1≤ss.length∧ss.length≤8
 ·rw[decide_eq_true h1,decide_eq_true (show (1:Int)≤(ss.length:Int)∧(ss.length:Int)≤8 by omega)]
  by_cases h2:cl.length≤12
  ·rw[decide_eq_true h2,decide_eq_false (show ¬ (cl.length:Int)>12 by omega)]
   have e1:=Xa n (by omega) cl.length (AH cl) (ss.length:Int) ss (by omega) ss.length 0 (n+5) (by omega) (by omega)
   have e1:f27.l0 (n+5) (n+5) cl.length (AH cl) ss.length (AG ss) (ss.length:Int) (ss.length:Int) 0=_:=e1
   have e2:=Xp (n+3) ss.length (AG ss) ss.length (by omega) cl (by omega) cl.length 0 (n+5) (by omega) (by omega)
   have e2:f27.l1 (n+5) (n+5) cl.length (AH cl) ss.length (AG ss) (ss.length:Int) (cl.length:Int) 0=_:=e2
   simp only[Bool.not_true,Af,e1,drop_zero,Bool.true_and]
   cases ss.all YV
   ·rfl
   ·simp only[if_true,AJ,ZX,e2,drop_zero,Bool.true_and]
    cases cl.all (YC ss.length) <;>rfl
  ·rw[decide_eq_false h2,decide_eq_true (show (cl.length:Int)>12 by omega)];rfl
 ·rw[decide_eq_false h1,decide_eq_false (show ¬ ((1:Int)≤(ss.length:Int)∧(ss.length:Int)≤8) by omega)];rfl
def Dc (p:Int) (x:Nat) (out:List Nat):List Nat:=if 0≤p∧p<(out.length:Int) then out.set p.toNat (Au .f32 (out.getD p.toNat 0) x) else out
def CQ:Int→List Nat→List Nat→List Nat
 | _,[],out=>out
 | p,x::xs,out=>CQ (p+1) xs (Dc p x out)
def AP (track frm:Int):List BM→List Nat→List Nat
 | [],out=>out
 | c::cs,out=>AP track frm cs (if c.kind=track then CQ (c.len - frm) c.nums out else out)
theorem DK (p:Int) (x:Nat) (out:List Nat):(Dc p x out).length=out.length:=by unfold Dc;split <;>simp
theorem A9:∀ (xs:List Nat) (p:Int) (out:List Nat),(CQ p xs out).length=out.length
 | [],_,_=>rfl
 | x::xs,p,out=>by rw[CQ,A9 xs,DK]
theorem BO (track frm:Int):∀ (cs:List BM) (out:List Nat),(AP track frm cs out).length=out.length
 | [],_=>rfl
 | c::cs,out=>by
   rw[AP,BO track frm cs]
   split
   ·rw[A9]
   ·rfl
theorem Xe {p:Int} {x:Nat} {out:List Nat} (h:EO out):EO (Dc p x out):=by
 unfold Dc
 split
 ·intro y hy
  rcases mem_or_eq_of_mem_set hy with h' | rfl
  ·exact h y h'
  ·exact BV _ _
 ·exact h
theorem Nb:∀ (xs:List Nat) (p:Int) (out:List Nat),EO out→EO (CQ p xs out)
 | [],_,_,h=>h
 | x::xs,p,out,h=>Nb xs _ _ (Xe h)
theorem Fk (track frm:Int):∀ (cs:List BM) (out:List Nat),EO out→EO (AP track frm cs out)
 | [],_,h=>h
 | c::cs,out,h=>by
   rw[AP]
   refine Fk track frm cs _ ?_
   split
   ·exact Nb _ _ _ h
   ·exact h
theorem Ua {out:List Nat} {i y:Nat}:AF (AL .f32 out) i [T.flt .f32 y]=AL .f32 (out.set i y):=by rw[Fm];simp[AL,List.map_set]
theorem QC (n:Nat) (i1 i2:Int) (n4:Nat) (l5:List T) (n6:Nat) (l7:List T) (k:Nat) (i10:Int) (at_:Int) (n12:Nat) (l13:List T) (n14:Nat) (l15:List T) (i16 i17:Int) (hk:k≤100000) (ha : -10000000≤at_∧at_≤10000000) (hf : -10000000≤i2∧i2≤10000000) :
  ∀ (zs p out:List Nat) (m:Nat),out.length=k→p.length+zs.length<1048576→zs.length<m →
  f57.l1 (n+1) m i1 i2 (k:Int) n4 l5 n6 l7 k (AL .f32 out) i10 at_ n12 l13 n14 l15 i16 i17 (p++zs).length (AL .f32 (p++zs)) ((p++zs).length:Int) (p.length:Int) =
   some (i1,i2,(k:Int),n4,l5,n6,l7,k,AL .f32 (CQ (at_+(p.length:Int) - i2) zs out),n14,l15,i16,i17):=by
 intro zs
 induction zs with
 | nil =>
   intro p out m ho _ hm
   obtain ⟨m,rfl⟩:=zc m (by simp at hm;omega)
   rw[f57.l1,DD];rfl
 | cons z zs ih =>
   intro p out m ho hp hm
   obtain ⟨m,rfl⟩:=zc m (by simp at hm;omega)
   have hp':p.length<1048576:=by simp at hp;omega
   have w1:IntKind.i64.wrap (IntKind.i64.wrap (at_+(p.length:Int)) - i2)=at_+(p.length:Int) - i2:=by
    rw[BD (x:=at_+(p.length:Int)) (by omega) (by omega),BD (by omega) (by omega)]
   have w2:IntKind.i64.wrap ((k:Int) - 1)=(k:Int) - 1:=by rw[BD] <;>omega
   have w' :=Bt (z:=z) (p:=p) (show p.length<4611686018427387904 by omega)
   rw[f57.l1,DB,Cu,BS,Ba,CD]
   simp only[AV,Ay,zA,w1,w2,V1,AJ,w']
   have hq:at_+((p++[z]).length:Int) - i2=at_+(p.length:Int) - i2+1:=by simp;omega
   rw[CQ]
   by_cases hc:0≤at_+(p.length:Int) - i2∧at_+(p.length:Int) - i2≤(k:Int) - 1
   ·obtain ⟨q,hq2⟩:=Int.eq_ofNat_of_zero_le hc.1
    have hqk:q<out.length:=by omega
    have step:=ih (p++[z]) (Dc (at_+(p.length:Int) - i2) z out) m (by rw[DK];exact ho) (by simp at hp ⊢;omega) (by simp at hm;omega)
    rw[hq] at step
    have hadd:Dc (at_+(p.length:Int) - i2) z out=out.set q (Au .f32 (out.getD q 0) z):=by
     unfold Dc;rw[hq2,if_pos (by omega)];rfl
    rw[hadd] at step ⊢
    rw[decide_eq_true hc,hq2] at *
    have g1:decide ((0:Int)≤(q:Int)∧(q:Int)<(k:Int))=true:=decide_eq_true (by omega)
    have g2:AI [.flt .f32] (AL .f32 out) q=true:=BH hqk
    have g3:Nat.ble (q+1) (AL .f32 out).length=true:=by rw[Pa];exact Dj (by omega)
    simp only[AV,g1,Ay,zT,g2,g3,Cy,Ua]
    simpa using step
   ·have step:=ih (p++[z]) (Dc (at_+(p.length:Int) - i2) z out) m (by rw[DK];exact ho) (by simp at hp ⊢;omega) (by simp at hm;omega)
    have hadd:Dc (at_+(p.length:Int) - i2) z out=out:=by unfold Dc;rw[if_neg (by omega)]
    rw[hadd,hq] at step
    rw[hadd,decide_eq_false hc,Af]
    simpa using step
theorem PJ (n:Nat) (track frm:Int) (N:Nat) (ts:List T) (M:Nat) (us:List T) (k:Nat) (hk:k≤100000) (hf : -10000000≤frm∧frm≤10000000) (cs:List BM) (hl:cs.length≤100) (hcl:∀ c∈cs,(0≤c.len∧c.len≤256)∧c.nums.length≤256) (hn:300<n):∀ (j i m:Nat) (out:List Nat),i+j=cs.length→out.length=k→j<m →
  f57.l0 (n+1) m track frm (k:Int) N ts M us k (AL .f32 out) cs.length (AH cs) (cs.length:Int) (i:Int)=some (k,AL .f32 (AP track frm (cs.drop i) out)):=by
 intro j
 induction j with
 | zero =>
   intro i m out hi ho hm
   obtain ⟨m,rfl⟩:=zc m (by omega)
   rw[f57.l0,A8 (by omega),drop_eq_nil_of_le (by omega)];rfl
 | succ j ih =>
   intro i m out hi ho hm
   obtain ⟨m,rfl⟩:=zc m (by omega)
   have h:i<cs.length:=by omega
   obtain ⟨c1,c2⟩:=hcl _ (GN h)
   rw[f57.l0,Bf h,A1 h,zT,U5 h,Dl h,AP]
   simp only[AV,zA,Ay,kE h,gE h,nE h,lE h,AJ,AZ (show i<9223372036854775807 by omega)]
   by_cases hc:(Cg cs i).kind=track
   ·have e:=QC n track frm N ts M us k (Cg cs i).kind (Cg cs i).len (Cg cs i).nums.length (AL .f32 (Cg cs i).nums) cs.length (AH cs) (cs.length:Int) (i:Int) hk (by omega) hf (Cg cs i).nums [] out (n+1) ho (by simp;omega) (by omega)
    have e:f57.l1 (n+1) (n+1) track frm (k:Int) N ts M us k (AL .f32 out) (Cg cs i).kind (Cg cs i).len (Cg cs i).nums.length (AL .f32 (Cg cs i).nums) cs.length (AH cs) (cs.length:Int) (i:Int) (Cg cs i).nums.length (AL .f32 (Cg cs i).nums) ((Cg cs i).nums.length:Int) 0=_:=e
    rw[show ((Cg cs i).kind != track)=false by simp[hc],if_pos hc]
    simp only[Af,e,AJ,length_nil,Int.natCast_zero,Int.add_zero,AZ (show i<9223372036854775807 by omega)]
    exact ih (i+1) m _ (by omega) (by rw[A9];exact ho) (by omega)
   ·rw[show ((Cg cs i).kind != track)=true by simp[hc],if_neg hc]
    simp only[AV]
    exact ih (i+1) m out (by omega) ho (by omega)
theorem RS (n:Nat) (cs:List BM) (M:Nat) (us:List T) (track frm:Int) (k:Nat) (hk:k≤100000) (hf : -10000000≤frm∧frm≤10000000) (hl:cs.length≤100) (hcl:∀ c∈cs,(0≤c.len∧c.len≤256)∧c.nums.length≤256) (hn:300<n) :
  f57 (n+2) cs.length (AH cs) M us track frm (k:Int)=some (k,AL .f32 (AP track frm cs (List.replicate k 0))):=by
 have e:=PJ n track frm cs.length (AH cs) M us k hk hf cs hl hcl hn cs.length 0 (n+1) (List.replicate k 0) (by omega) (by simp) (by omega)
 have e:f57.l0 (n+1) (n+1) track frm (k:Int) cs.length (AH cs) M us k (AL .f32 (List.replicate k 0)) cs.length (AH cs) (cs.length:Int) 0=_:=e
 rw[f57,ID n k (by omega)]
 simp only[AJ,e,drop_zero]
theorem QI (n:Nat) (N:Nat) (ts:List T) (M:Nat) (us:List T) (track:Int) (k:Nat) (i9 at_:Int) (i13 i14:Int) (hk:k≤100000) (ha:0≤at_∧at_≤10000000) :
  ∀ (zs p out:List Nat) (m:Nat),out.length=k→p.length+zs.length<1048576→zs.length<m →
  f68.l1 n m N ts M us track (k:Int) k (AL .f32 out) i9 at_ (p++zs).length (AL .f32 (p++zs)) i13 i14 ((p++zs).length:Int) (p.length:Int) =
   some (N,ts,M,us,track,(k:Int),k,AL .f32 (CQ (at_+(p.length:Int)) zs out),i13,i14):=by
 intro zs
 induction zs with
 | nil =>
   intro p out m ho _ hm
   obtain ⟨m,rfl⟩:=zc m (by simp at hm;omega)
   rw[f68.l1,DD];rfl
 | cons z zs ih =>
   intro p out m ho hp hm
   obtain ⟨m,rfl⟩:=zc m (by simp at hm;omega)
   have hp':p.length<1048576:=by simp at hp;omega
   have w1:IntKind.i64.wrap (at_+(p.length:Int))=at_+(p.length:Int):=by rw[BD] <;>omega
   have w' :=Bt (z:=z) (p:=p) (show p.length<4611686018427387904 by omega)
   rw[f68.l1,DB,Cu,BS,Ba,CD]
   simp only[AV,Ay,zA,w1,AJ,w']
   have hq:at_+((p++[z]).length:Int)=at_+(p.length:Int)+1:=by simp;omega
   rw[CQ]
   by_cases hc:at_+(p.length:Int)<(k:Int)
   ·obtain ⟨q,hq2⟩:=Int.eq_ofNat_of_zero_le (show 0≤at_+(p.length:Int) by omega)
    have hqk:q<out.length:=by omega
    have step:=ih (p++[z]) (Dc (at_+(p.length:Int)) z out) m (by rw[DK];exact ho) (by simp at hp ⊢;omega) (by simp at hm;omega)
    rw[hq] at step
    have hadd:Dc (at_+(p.length:Int)) z out=out.set q (Au .f32 (out.getD q 0) z):=by
     unfold Dc;rw[hq2,if_pos (by omega)];rfl
    rw[hadd] at step ⊢
    rw[decide_eq_true hc]
    rw[hq2] at *
    have g1:decide ((0:Int)≤(q:Int)∧(q:Int)<(k:Int))=true:=decide_eq_true (by omega)
    have g2:AI [.flt .f32] (AL .f32 out) q=true:=BH hqk
    have g3:Nat.ble (q+1) (AL .f32 out).length=true:=by rw[Pa];exact Dj (by omega)
    simp only[AV,g1,Ay,zT,g2,g3,Cy,Ua]
    simpa using step
   ·have step:=ih (p++[z]) (Dc (at_+(p.length:Int)) z out) m (by rw[DK];exact ho) (by simp at hp ⊢;omega) (by simp at hm;omega)
    have hadd:Dc (at_+(p.length:Int)) z out=out:=by unfold Dc;rw[if_neg (by omega)]
    rw[hadd,hq] at step
    rw[hadd,decide_eq_false hc,Af]
    simpa using step
theorem PB (n:Nat) (track:Int) (M:Nat) (us:List T) (k:Nat) (hk:k≤100000) (cs:List BM) (hl:cs.length≤100) (hcl:∀ c∈cs,(0≤c.len∧c.len≤256)∧c.nums.length≤256) (hn:300<n):∀ (j i m:Nat) (out:List Nat),i+j=cs.length→out.length=k→j<m →
  f68.l0 n m cs.length (AH cs) M us track (k:Int) k (AL .f32 out) (cs.length:Int) (i:Int)=some (k,AL .f32 (AP track 0 (cs.drop i) out)):=by
 intro j
 induction j with
 | zero =>
   intro i m out hi ho hm
   obtain ⟨m,rfl⟩:=zc m (by omega)
   rw[f68.l0,A8 (by omega),drop_eq_nil_of_le (by omega)];rfl
 | succ j ih =>
   intro i m out hi ho hm
   obtain ⟨m,rfl⟩:=zc m (by omega)
   have h:i<cs.length:=by omega
   obtain ⟨c1,c2⟩:=hcl _ (GN h)
   rw[f68.l0,Bf h,A1 h,zT,U5 h,Dl h,AP]
   simp only[AV,zA,Ay,kE h,gE h,nE h,lE h,AJ,AZ (show i<9223372036854775807 by omega)]
   by_cases hc:(Cg cs i).kind=track
   ·have e:=QI n cs.length (AH cs) M us track k (Cg cs i).kind (Cg cs i).len (cs.length:Int) (i:Int) hk (by omega) (Cg cs i).nums [] out n ho (by simp;omega) (by omega)
    have e:f68.l1 n n cs.length (AH cs) M us track (k:Int) k (AL .f32 out) (Cg cs i).kind (Cg cs i).len (Cg cs i).nums.length (AL .f32 (Cg cs i).nums) (cs.length:Int) (i:Int) ((Cg cs i).nums.length:Int) 0=_:=e
    rw[show ((Cg cs i).kind != track)=false by simp[hc],if_pos hc]
    simp only[Af,e,AJ,length_nil,Int.natCast_zero,Int.add_zero,Int.sub_zero,AZ (show i<9223372036854775807 by omega)]
    exact ih (i+1) m _ (by omega) (by rw[A9];exact ho) (by omega)
   ·rw[show ((Cg cs i).kind != track)=true by simp[hc],if_neg hc]
    simp only[AV]
    exact ih (i+1) m out (by omega) ho (by omega)
theorem YL (n:Nat) (cs:List BM) (M:Nat) (us:List T) (track:Int) (k:Nat) (hk:k≤100000) (hl:cs.length≤100) (hcl:∀ c∈cs,(0≤c.len∧c.len≤256)∧c.nums.length≤256) (hn:300<n) :
  f68 (n+1) cs.length (AH cs) M us track (k:Int)=some (k,AL .f32 (AP track 0 cs (List.replicate k 0))):=by
 have e:=PB n track M us k hk cs hl hcl hn cs.length 0 n (List.replicate k 0) (by omega) (by simp) (by omega)
 have e:f68.l0 n n cs.length (AH cs) M us track (k:Int) k (AL .f32 (List.replicate k 0)) (cs.length:Int) 0=_:=e
 rw[f68,decide_eq_true (show (0:Int)≤(k:Int)∧(k:Int)≤2147483648 by omega),zT,L2]
 simp only[Ay,AJ,e,drop_zero]
theorem bI (n:Nat) {e:Ef} (h:e.Ok):f109 (n+2) e.eff.kind e.eff.len e.eff.nums.length (AL .f32 e.eff.nums)=some (e.keep,AL .f32 (newRow e)):=by
 rw[f109]
 cases e with
 | scale g=>rfl
 | filt a b c d f =>
   have hz:=ID n 2 (by omega)
   simp only[Ef.eff,beq_self_eq_true,AV,Af]
   show bd (f93 (n+1) ((2:Nat):Int)) _=_
   rw[hz];rfl
 | echo L p q =>
   have hL:1≤L∧L≤32:=h
   have hz:=ID n L (by omega)
   simp only[Ef.eff,show ((2:Int)==1)=false from rfl,beq_self_eq_true,AV,Af,hz,AJ]
   rfl
 | squeeze a b c d =>
   have hz:=ID n 1 (by omega)
   simp only[Ef.eff,show ((3:Int)==1)=false from rfl,show ((3:Int)==2)=false from rfl,beq_self_eq_true,AV,Af]
   show bd (f93 (n+1) ((1:Nat):Int)) _=_
   rw[hz];rfl
 | clip g=>rfl
 | bend=>rfl
 | lim A k r =>
   have hA:A≤32∧BX k∧_:=h
   have hz:=ID n A (by omega)
   have hb:Nat.ble (1+A) 2147483648=true:=by rw[Nat.ble_eq];omega
   simp only[Ef.eff,show ((6:Int)==1)=false from rfl,show ((6:Int)==2)=false from rfl,show ((6:Int)==3)=false from rfl,beq_self_eq_true,AV,Af,hz,AJ,hb,Ay]
   rw[Nat.add_comm 1 A]
   rfl
theorem Vo (n:Nat) (N:Nat) (ts:List T) (es:List Ef) (hl:es.length≤100) (hok:∀ e∈es,e.Ok):∀ (j i m:Nat) (P:List (List Nat)),i+j=es.length→P.length≤i→j<m →
  f73.l0 (n+2) m N ts P.length (P.map NU) es.length (AH (CL es)) (es.length:Int) (i:Int)=some ((P++(es.drop i).map newRow).length,(P++(es.drop i).map newRow).map NU):=by
 intro j
 induction j with
 | zero =>
   intro i m P hi hP hm
   obtain ⟨m,rfl⟩:=zc m (by omega)
   rw[f73.l0,A8 (by omega),drop_eq_nil_of_le (by omega)]
   simp[br]
 | succ j ih =>
   intro i m P hi hP hm
   obtain ⟨m,rfl⟩:=zc m (by omega)
   have h:i<es.length:=by omega
   have he:i<(CL es).length:=by rw[CU];exact h
   have hE:=hok _ (MU h)
   have hp:=OI P (newRow (D5 es i))
   rw[Hd] at hp
   have step:=ih (i+1) m (P++[newRow (D5 es i)]) (by omega) (by simp;omega) (by omega)
   rw[f73.l0,Bf h,A1 h,zT,U5 he,N4 h]
   simp only[AV,zA,Ay,kE he,gE he,nE he,lE he,N0 h,bI n hE,AJ,An (show P.length<2147483648 by omega),hp,AZ (show i<9223372036854775807 by omega)]
   rw[A6 (z:=newRow (D5 es i)),step]
   simp
theorem WF (n:Nat) (es:List Ef) (hl:es.length≤100) (hok:∀ e∈es,e.Ok) (hn:200<n):f73 (n+3) es.length (AH (CL es))=some ((es.map newRow).length,(es.map newRow).map NU):=by
 have e:=Vo n es.length (AH (CL es)) es hl hok es.length 0 (n+2) [] (by omega) (by simp) (by omega)
 have e:f73.l0 (n+2) (n+2) es.length (AH (CL es)) 0 [] es.length (AH (CL es)) (es.length:Int) 0=_:=e
 rw[f73,e]
 simp only[AJ,drop_zero,nil_append]
theorem VT (n:Nat) (es:List Ef) (hl:es.length≤100) (hok:∀ e∈es,e.Ok) (hn:200<n):f67 (n+2) es.length (AH (CL es))=some ((es.map newRow).length,(es.map newRow).map NU):=by
 have e:=Vs n es hl hok es.length 0 (n+1) [] (by omega) (by simp) (by omega)
 have e:f67.l0 (n+1) (n+1) es.length (AH (CL es)) 0 (reps 0 [(T.lst 0 [])]) 0=_:=e
 rw[f67,e]
 simp only[AJ,drop_zero,nil_append]
def C9 (es:List Ef) (track:Int) (cl:List BM) (k:Nat):List Nat:=(A0 es (es.map newRow) (AP track 0 cl (List.replicate k 0))).1
theorem FV (k:Nat):EO (List.replicate k 0):=fun y hy=>by
 obtain ⟨-,rfl⟩:=mem_replicate.1 hy;exact BZ
theorem FQ {es:List Ef} (ho:∀ e∈es,e.Ok) (track:Int) (cl:List BM) (k:Nat):(C9 es track cl k).length=k∧EO (C9 es track cl k):=by
 obtain ⟨h1,-,h3⟩:=RO es (es.map newRow) (AP track 0 cl (List.replicate k 0)) ho (Sy es).fits (Fk _ _ _ _ (FV k))
 exact ⟨by unfold C9;rw[h3,BO,length_replicate],h1⟩
structure Yp (cl:List BM) (ss:List Aq):Prop where
 n:1≤ss.length∧ss.length≤8
 c:cl.length≤12
 s:∀ s∈ss,FJ s.es=true∧(-2000≤s.tn∧s.tn≤2000)∧Iw s.pan=true
 k:∀ c∈cl,(0≤c.kind∧c.kind≤(ss.length:Int) - 1)∧(0≤c.len∧c.len≤256)∧c.nums.length≤256
theorem J2 {cl:List BM} {ss:List Aq} (h:DU cl ss=true):Yp cl ss:=by
 unfold DU at h
 simp only[zB,decide_eq_true_eq,all_eq_true] at h
 obtain ⟨h1,h2,h3,h4⟩:=h
 refine ⟨h1,h2,fun s hs => ?_,fun c hc => ?_⟩
 ·have:=h3 s hs
  unfold YV at this
  simp only[zB,decide_eq_true_eq] at this
  exact ⟨this.1,this.2.1,this.2.2⟩
 ·have:=h4 c hc
  unfold YC at this
  simp only[zB,decide_eq_true_eq] at this
  exact ⟨this.1,this.2.1,this.2.2⟩
structure nU (cl:List BM) (ss:List Aq):Prop where
 c:∀ c∈cl,dR c
 s:∀ s∈ss,(∀ e∈s.es,dR e)∧JS .i64 s.tn∧BX s.pan
theorem RL (n:Nat) (hn:1000<n) {cl:List BM} {ss:List Aq} (h:Yp cl ss) (i k:Nat) (hi:i<ss.length) (hk:k≤256) (es:List Ef) (he:CL es=(Ai ss i).es) (ho:∀ e∈es,e.Ok) (hl:es.length≤8) :
  f34 (n+104) cl.length (AH cl) ss.length (AG ss) (i:Int) (k:Int)=some (k,AL .f32 (C9 es (i:Int) cl k)):=by
 have hcl:∀ c∈cl,(0≤c.len∧c.len≤256)∧c.nums.length≤256:=fun c hc=>(h.k c hc).2
 have hc:=h.c
 have e1:=WF (n+100) es (by omega) ho (by omega)
 have e1:f73 (n+103) es.length (AH (CL es))=_:=e1
 have e2:=RS (n+101) cl ss.length (AG ss) (i:Int) 0 k (by omega) (by omega) (by omega) hcl (by omega)
 have e2:f57 (n+103) cl.length (AH cl) ss.length (AG ss) (i:Int) 0 (k:Int)=_:=e2
 have e3:=UH n (by omega) es (by omega) ho (es.map newRow) (Sy es).fits (AP (i:Int) 0 cl (List.replicate k 0)) (Fk _ _ _ _ (FV k)) (by rw[BO,length_replicate];exact hk)
 have hlen:=(FQ ho (i:Int) cl k).1
 rw[BO,length_replicate] at e3
 have hle:(Ai ss i).es.length=es.length:=by rw[← he,CU]
 rw[f34,A1 hi,zT,Rl hi]
 simp only[zA,Ay,bM hi,fS hi]
 rw[hle,← he]
 simp only[e1,e2,e3,AJ]
 rw[show (A0 es (es.map newRow) (AP (i:Int) 0 cl (List.replicate k 0))).1=C9 es (i:Int) cl k from rfl,hlen]
theorem XL (n:Nat) (hn:1000<n) {cl:List BM} {ss:List Aq} (h:Yp cl ss) (i k:Nat) (hi:i<ss.length) (hk:k≤256) (es:List Ef) (he:CL es=(Ai ss i).es) (ho:∀ e∈es,e.Ok) (hl:es.length≤8) :
  f30 (n+104) cl.length (AH cl) ss.length (AG ss) (i:Int) (k:Int)=some (k,AL .f32 (C9 es (i:Int) cl k)):=by
 have hcl:∀ c∈cl,(0≤c.len∧c.len≤256)∧c.nums.length≤256:=fun c hc=>(h.k c hc).2
 have hc:=h.c
 have e1:=VT (n+101) es (by omega) ho (by omega)
 have e1:f67 (n+103) es.length (AH (CL es))=_:=e1
 have e2:=YL (n+102) cl ss.length (AG ss) (i:Int) k (by omega) (by omega) hcl (by omega)
 have e2:f68 (n+103) cl.length (AH cl) ss.length (AG ss) (i:Int) (k:Int)=_:=e2
 have e3:=Vj n (by omega) es (by omega) ho (es.map newRow) (Sy es).fits (AP (i:Int) 0 cl (List.replicate k 0)) (Fk _ _ _ _ (FV k)) (by rw[BO,length_replicate];exact hk)
 have hlen:=(FQ ho (i:Int) cl k).1
 rw[BO,length_replicate] at e3
 have hle:(Ai ss i).es.length=es.length:=by rw[← he,CU]
 rw[f30,A1 hi,zT,Rl hi]
 simp only[zA,Ay,bM hi,fS hi]
 rw[hle,← he]
 simp only[e1,e2,e3,AJ]
 rw[show (A0 es (es.map newRow) (AP (i:Int) 0 cl (List.replicate k 0))).1=C9 es (i:Int) cl k from rfl,hlen]
theorem KT (n:Nat) {bs:List Int} (hb:ED bs):∀ (j m:Nat) (a sd:Int) (acc:List Ef),0≤a→a+1000 * (j:Int)≤1125899906830000→acc.length+j≤1000→j<m→(∀ e∈acc,e.Ok) →
  ∃ (es:List Ef) (a' sd':Int),es.length=acc.length+j∧(∀ e∈es,e.Ok)∧(a≤a'∧a'≤a+400 * (j:Int))∧f85.l0 (n+9) m bs.length (its .u8 bs) a sd acc.length (AH (CL acc)) (j:Int)=some (bs.length,its .u8 bs,a',sd',es.length,AH (CL es)):=by
 intro j
 induction j with
 | zero =>
   intro m a sd acc _ _ _ hm hw
   obtain ⟨m,rfl⟩:=zc m (by omega)
   rw[f85.l0]
   exact ⟨acc,a,sd,by omega,hw,by omega,rfl⟩
 | succ j ih =>
   intro m a sd acc h0 h1 hl hm hw
   obtain ⟨m,rfl⟩:=zc m (by omega)
   obtain ⟨e,a1,s1,he,ha1,e1⟩:=ZD n hb h0 (by omega) sd
   obtain ⟨es,a',sd',q1,q2,qa,q3⟩:=ih m a1 s1 (acc++[e]) (by omega) (by omega) (by simp;omega) (by omega) (by
    intro x hx
    rcases mem_append.1 hx with h | h
    ·exact hw x h
    ·rw[mem_singleton.1 h];exact he)
   refine ⟨es,a',sd',by simp at q1;omega,q2,by omega,?_⟩
   rw[f85.l0,decide_eq_true (show (((j+1:Nat):Int)>0) by omega),show IntKind.i64.wrap (((j+1:Nat):Int) - 1)=(j:Int) by rw[BD] <;>omega]
   have hp:=E6 (CL acc) e.eff
   have hq:CL acc++[e.eff]=CL (acc++[e]):=by simp[CL]
   rw[hq] at hp
   have hl1:(CL acc).length=acc.length:=CU acc
   unfold EN at hp
   simp only[AV,e1,AJ,An (show acc.length<2147483648 by omega),Ay]
   rw[hp,A6 (z:=e)]
   exact q3
theorem aX (n:Nat) {bs:List Int} (hb:ED bs) (hn:100<n) {a:Int} (h0:0≤a) (h1:a≤1125899906800000) (sd:Int):∃ (es:List Ef) (a' sd':Int),es.length≤8∧(∀ e∈es,e.Ok)∧(a≤a'∧a'≤a+4000)∧f85 (n+10) bs.length (its .u8 bs) a sd=some (es.length,AH (CL es),bs.length,its .u8 bs,a',sd'):=by
 obtain ⟨k,a1,s1,hk,ha1,e1⟩:=Ca (n+7) hb (a:=a) (by omega) (by omega) sd 5
 obtain ⟨k,rfl⟩:=Int.eq_ofNat_of_zero_le hk.1
 have hk5:=hk.2.1 (by omega)
 obtain ⟨b,a2,s2,ha2,e2⟩:=Gt (n+6) hb (a:=a1) (by omega) (by omega) s1 24
 obtain ⟨es,a3,s3,q1,q2,qa,q3⟩:=KT n hb k (n+9) a2 s2 [] (by omega) (by omega) (by simp;omega) (by omega) (by simp)
 obtain ⟨fs,a4,s4,r1,r2,ra,r3⟩:=KT n hb 8 (n+9) a2 s2 [] (by omega) (by omega) (by simp) (by omega) (by simp)
 have q3:f85.l0 (n+9) (n+9) bs.length (its .u8 bs) a2 s2 0 (reps 0 [(T.int .i64 (0:Int)),(T.int .i64 (0:Int)),(T.lst 0 [])]) (k:Int)=_:=q3
 have r3:f85.l0 (n+9) (n+9) bs.length (its .u8 bs) a2 s2 0 (reps 0 [(T.int .i64 (0:Int)),(T.int .i64 (0:Int)),(T.lst 0 [])]) 8=_:=r3
 rw[f85,e1]
 cases b
 ·simp only[AJ,e2,Af,q3]
  exact ⟨es,a3,s3,by simp at q1;omega,q2,by omega,rfl⟩
 ·simp only[AJ,e2,AV,r3]
  exact ⟨fs,a4,s4,by simp at r1;omega,r2,by omega,rfl⟩
def it (k:Nat):Nat:=fdiv .f32 (FloatKind.f32.nearest (k:Int)) 1098907648
theorem ca:∀ k:Nat,k<17→Iw (it k)=true:=by decide +kernel
structure kj (s:Aq):Prop where
 es:∃ es:List Ef,CL es=s.es∧(∀ e∈es,e.Ok)∧es.length≤8
 tn : -90≤s.tn∧s.tn≤29
 pan:∃ k:Nat,k<17∧s.pan=it k
structure lP (N:Nat) (c:BM):Prop where
 kind:0≤c.kind∧c.kind≤(N:Int) - 1
 len:0≤c.len∧c.len≤11
 few:c.nums.length≤8
 w:EO c.nums
structure Wg (cl:List BM) (ss:List Aq):Prop where
 n:1≤ss.length∧ss.length≤3
 c:cl.length≤4
 s:∀ s∈ss,kj s
 k:∀ c∈cl,lP ss.length c
theorem VM (acc:List Aq) (s:Aq):AG acc++AF (reps 1 [(T.lst 0 []),(T.int .i64 (0:Int)),(T.flt .f32 0),(T.bool false),(T.bool false)]) 0 (Ul s)=AG (acc++[s]):=by
 unfold AG
 rw[flatMap_append,flatMap_singleton];rfl
theorem Qt (n:Nat) {bs:List Int} (hb:ED bs) (hn:100<n) (N5:Nat) (t5:List T) (N7:Nat) (t7:List T) (N9:Nat) (t9:List T):∀ (j m:Nat) (a sd:Int) (acc:List Aq),0≤a→a+5000 * (j:Int)≤1125899906790000→acc.length+j≤1000→j<m→(∀ s∈acc,kj s) →
  ∃ (ss:List Aq) (a' sd':Int),ss.length=acc.length+j∧(∀ s∈ss,kj s)∧(a≤a'∧a'≤a+5000 * (j:Int))∧f49.l0 (n+10) m bs.length (its .u8 bs) a sd N5 t5 N7 t7 N9 t9 acc.length (AG acc) (j:Int)=some (bs.length,its .u8 bs,a',sd',N5,t5,N7,t7,N9,t9,ss.length,AG ss):=by
 intro j
 induction j with
 | zero =>
   intro m a sd acc _ _ _ hm hw
   obtain ⟨m,rfl⟩:=zc m (by omega)
   rw[f49.l0]
   exact ⟨acc,a,sd,by omega,hw,by omega,rfl⟩
 | succ j ih =>
   intro m a sd acc h0 h1 hl hm hw
   obtain ⟨m,rfl⟩:=zc m (by omega)
   have hj:IntKind.i64.wrap (((j+1:Nat):Int) - 1)=(j:Int):=by rw[BD] <;>omega
   obtain ⟨b1,a1,s1,ha1,e1⟩:=Gt (n+7) hb (a:=a) (by omega) (by omega) sd 6
   obtain ⟨b2,a2,s2,ha2,e2⟩:=Gt (n+7) hb (a:=a1) (by omega) (by omega) s1 8
   obtain ⟨b3,a3,s3,ha3,e3⟩:=Gt (n+7) hb (a:=a2) (by omega) (by omega) s2 2
   obtain ⟨es,a4,s4,q1,q2,ha4,e4⟩:=aX n hb hn (a:=a3) (by omega) (by omega) s3
   have fin:∀ (es:List Ef) (a5 s5:Int),es.length≤8→(∀ e∈es,e.Ok)→a≤a5→a5≤a+4010→∃ (t p a7 s7 a6 s6:Int) (st:Aq),f83 (n+10) bs.length (its .u8 bs) a5 s5 120=some (t,bs.length,its .u8 bs,a6,s6)∧f83 (n+10) bs.length (its .u8 bs) a6 s6 17=some (p,bs.length,its .u8 bs,a7,s7)∧kj st ∧
     st=⟨CL es,IntKind.i64.wrap (t - 90),fdiv .f32 (FloatKind.f32.nearest p) 1098907648,b1,b2⟩∧(a≤a7∧a7≤a+4100):=by
    intro es a5 s5 q1 q2 l1 l2
    obtain ⟨t,a6,s6,ht,ha6,e6⟩:=Ca (n+8) hb (a:=a5) (by omega) (by omega) s5 120
    obtain ⟨p,a7,s7,hp,ha7,e7⟩:=Ca (n+8) hb (a:=a6) (by omega) (by omega) s6 17
    have ht2:=ht.2.1 (by omega)
    have hp2:=hp.2.1 (by omega)
    obtain ⟨p,rfl⟩:=Int.eq_ofNat_of_zero_le hp.1
    refine ⟨t,p,a7,s7,a6,s6,_,e6,e7,⟨⟨es,rfl,q2,q1⟩,?_,⟨p,by omega,rfl⟩⟩,rfl,by omega⟩
    have:=ht.1
    show -90≤IntKind.i64.wrap (t - 90)∧IntKind.i64.wrap (t - 90)≤29
    rw[BD] <;>omega
   rw[f49.l0,decide_eq_true (show (((j+1:Nat):Int)>0) by omega)]
   simp only[AV,e1,e2,e3,AJ]
   cases b3
   ·obtain ⟨t,p,a7,s7,a6,s6,st,e6,e7,hst,rfl,ha7⟩:=fin [] a3 s3 (by simp) (by simp) (by omega) (by omega)
    have hp:=VM acc ⟨CL [],IntKind.i64.wrap (t - 90),fdiv .f32 (FloatKind.f32.nearest p) 1098907648,b1,b2⟩
    unfold Ul at hp
    simp only at hp
    have hp':AG acc++AF (reps 1 [(T.lst 0 []),(T.int .i64 (0:Int)),(T.flt .f32 0),(T.bool false),(T.bool false)]) 0 [(T.lst 0 (reps 0 [(T.int .i64 (0:Int)),(T.int .i64 (0:Int)),(T.lst 0 [])])),(T.int .i64 (IntKind.i64.wrap (t - 90))),(T.flt .f32 (fdiv .f32 (FloatKind.f32.nearest p) 1098907648)),(T.bool b1),(T.bool b2)]=_:=hp
    obtain ⟨ss,a',sd',r1,r2,ra,r3⟩:=ih m a7 s7 (acc++[⟨CL [],IntKind.i64.wrap (t - 90),fdiv .f32 (FloatKind.f32.nearest p) 1098907648,b1,b2⟩]) (by omega) (by omega) (by simp;omega) (by omega) (by
     intro x hx
     rcases mem_append.1 hx with h | h
     ·exact hw x h
     ·rw[mem_singleton.1 h];exact hst)
    refine ⟨ss,a',sd',by simp at r1;omega,r2,by omega,?_⟩
    simp only[Af,e6,e7,AJ,An (show acc.length<2147483648 by omega),Ay,hj]
    rw[hp',A6 (z:=(⟨CL [],IntKind.i64.wrap (t - 90),fdiv .f32 (FloatKind.f32.nearest p) 1098907648,b1,b2⟩:Aq))]
    exact r3
   ·obtain ⟨t,p,a7,s7,a6,s6,st,e6,e7,hst,rfl,ha7⟩:=fin es a4 s4 q1 q2 (by omega) (by omega)
    have hp:=VM acc ⟨CL es,IntKind.i64.wrap (t - 90),fdiv .f32 (FloatKind.f32.nearest p) 1098907648,b1,b2⟩
    unfold Ul at hp
    simp only[CU] at hp
    obtain ⟨ss,a',sd',r1,r2,ra,r3⟩:=ih m a7 s7 (acc++[⟨CL es,IntKind.i64.wrap (t - 90),fdiv .f32 (FloatKind.f32.nearest p) 1098907648,b1,b2⟩]) (by omega) (by omega) (by simp;omega) (by omega) (by
     intro x hx
     rcases mem_append.1 hx with h | h
     ·exact hw x h
     ·rw[mem_singleton.1 h];exact hst)
    refine ⟨ss,a',sd',by simp at r1;omega,r2,by omega,?_⟩
    simp only[AV,e4,e6,e7,AJ,An (show acc.length<2147483648 by omega),Ay,hj]
    rw[hp,A6 (z:=(⟨CL es,IntKind.i64.wrap (t - 90),fdiv .f32 (FloatKind.f32.nearest p) 1098907648,b1,b2⟩:Aq))]
    exact r3
theorem QQ (n:Nat) {bs:List Int} (hb:ED bs) (hn:100<n) (N5:Nat) (t5:List T) (N7:Nat) (t7:List T) (N11:Nat) (hN:1≤N11) (t11:List T):∀ (j m:Nat) (a sd:Int) (acc:List BM),0≤a→a+300 * (j:Int)≤1125899906790000→acc.length+j≤1000→j<m→(∀ c∈acc,lP N11 c) →
  ∃ (cl:List BM) (a' sd':Int),cl.length=acc.length+j∧(∀ c∈cl,lP N11 c)∧f49.l1 (n+10) m bs.length (its .u8 bs) a sd N5 t5 N7 t7 acc.length (AH acc) N11 t11 (j:Int)=some (bs.length,its .u8 bs,a',sd',N5,t5,N7,t7,cl.length,AH cl,N11,t11):=by
 intro j
 induction j with
 | zero =>
   intro m a sd acc _ _ _ hm hw
   obtain ⟨m,rfl⟩:=zc m (by omega)
   rw[f49.l1]
   exact ⟨acc,a,sd,by omega,hw,rfl⟩
 | succ j ih =>
   intro m a sd acc h0 h1 hl hm hw
   obtain ⟨m,rfl⟩:=zc m (by omega)
   have hj:IntKind.i64.wrap (((j+1:Nat):Int) - 1)=(j:Int):=by rw[BD] <;>omega
   obtain ⟨t,a1,s1,ht,ha1,e1⟩:=Ca (n+8) hb (a:=a) (by omega) (by omega) sd (N11:Int)
   obtain ⟨u,a2,s2,hu,ha2,e2⟩:=Ca (n+8) hb (a:=a1) (by omega) (by omega) s1 12
   obtain ⟨k,a3,s3,hk,ha3,e3⟩:=Ca (n+8) hb (a:=a2) (by omega) (by omega) s2 9
   obtain ⟨k,rfl⟩:=Int.eq_ofNat_of_zero_le hk.1
   have hk2:=hk.2.1 (by omega)
   have hu2:=hu.2.1 (by omega)
   obtain ⟨ys,a4,s4,hy,hyw,ha4,e4⟩:=aW (n+4) hb (a:=a3) (by omega) k (by omega) (by omega) (by omega) s3
   have hp:=E6 acc ⟨t,u,ys⟩
   unfold EN at hp
   simp only at hp
   obtain ⟨cl,a',sd',r1,r2,r3⟩:=ih m a4 s4 (acc++[⟨t,u,ys⟩]) (by omega) (by omega) (by simp;omega) (by omega) (by
    intro x hx
    rcases mem_append.1 hx with h | h
    ·exact hw x h
    ·rw[mem_singleton.1 h]
     have h1:=ht.1
     by_cases hN1:1<(N11:Int)
     ·exact ⟨⟨h1,by have:=ht.2.1 hN1;show t≤_;omega⟩,⟨hu.1,by show u≤11;omega⟩,by show ys.length≤8;omega,hyw⟩
     ·have:=ht.2.2 (by omega)
      exact ⟨⟨h1,by show t≤_;omega⟩,⟨hu.1,by show u≤11;omega⟩,by show ys.length≤8;omega,hyw⟩)
   refine ⟨cl,a',sd',by simp at r1;omega,r2,?_⟩
   rw[f49.l1,decide_eq_true (show (((j+1:Nat):Int)>0) by omega)]
   simp only[AV,e1,e2,e3,e4,AJ,An (show acc.length<2147483648 by omega),Ay,hj]
   rw[hp,A6 (z:=(⟨t,u,ys⟩:BM))]
   exact r3
theorem cZ (n:Nat) {bs:List Int} (hb:ED bs) (hn:100<n):∃ cl ss,Wg cl ss∧f19 (n+12) bs.length (its .u8 bs)=some (cl.length,AH cl,ss.length,AG ss):=by
 obtain ⟨k,a1,s1,hk,ha1,e1⟩:=Ca (n+8) hb (a:=0) (by omega) (by omega) 0 3
 obtain ⟨k,rfl⟩:=Int.eq_ofNat_of_zero_le hk.1
 have hk2:=hk.2.1 (by omega)
 obtain ⟨ss,a2,s2,q1,q2,qa,q3⟩:=Qt n hb hn 0 [] 0 [] 0 [] (k+1) (n+10) a1 s1 [] (by omega) (by omega) (by simp;omega) (by omega) (by simp)
 have q3:f49.l0 (n+10) (n+10) bs.length (its .u8 bs) a1 s1 0 [] 0 [] 0 (reps 0 [(T.int .i64 (0:Int)),(T.int .i64 (0:Int)),(T.lst 0 [])]) 0 (reps 0 [(T.lst 0 []),(T.int .i64 (0:Int)),(T.flt .f32 0),(T.bool false),(T.bool false)]) ((k+1:Nat):Int)=_:=q3
 obtain ⟨j,a3,s3,hj,ha3,e3⟩:=Ca (n+8) hb (a:=a2) (by omega) (by omega) s2 5
 obtain ⟨j,rfl⟩:=Int.eq_ofNat_of_zero_le hj.1
 have hj2:=hj.2.1 (by omega)
 simp only[length_nil,Nat.zero_add] at q1
 obtain ⟨cl,a4,s4,r1,r2,r3⟩:=QQ n hb hn 0 [] 0 [] ss.length (by omega) (AG ss) j (n+10) a3 s3 [] (by omega) (by omega) (by simp;omega) (by omega) (by simp)
 have r3:f49.l1 (n+10) (n+10) bs.length (its .u8 bs) a3 s3 0 [] 0 [] 0 [] ss.length (AG ss) (j:Int)=_:=r3
 simp only[length_nil,Nat.zero_add] at r1
 refine ⟨cl,ss,⟨by omega,by omega,q2,r2⟩,?_⟩
 rw[f19,gS]
 simp only[AJ]
 rw[f49,e1]
 simp only[AJ]
 rw[show IntKind.i64.wrap (1+((k:Nat):Int))=((k+1:Nat):Int) by rw[BD] <;>omega,q3]
 simp only[AJ,e3,r3]
theorem VR {cl:List BM} {ss:List Aq} (h:Wg cl ss):DU cl ss=true:=by
 unfold DU
 simp only[zB,decide_eq_true_eq,all_eq_true]
 refine ⟨⟨h.n.1,by have:=h.n.2;omega⟩,by have:=h.c;omega,fun s hs => ?_,fun c hc => ?_⟩
 ·obtain ⟨⟨es,e1,e2,e3⟩,t,k,hk,hp⟩:=h.s s hs
  unfold YV FJ
  simp only[zB,decide_eq_true_eq,all_eq_true]
  refine ⟨⟨by rw[← e1,CU];exact e3,fun e he => ?_⟩,⟨by omega,by omega⟩,by rw[hp];exact ca k hk⟩
  rw[← e1] at he
  obtain ⟨f,hf,rfl⟩:=mem_map.1 he
  have v1:=Ql 0 (e2 f hf)
  rw[ZJ] at v1
  simpa using v1
 ·obtain ⟨a,b,c,d⟩:=h.k c hc
  unfold YC
  simp only[zB,decide_eq_true_eq]
  omega
theorem Ug {cl:List BM} {ss:List Aq} (h:Wg cl ss):∀ s∈ss,s.es.length≤100∧∀ e∈s.es,e.nums.length≤1000:=by
 intro s hs
 obtain ⟨⟨es,e1,e2,e3⟩,-,-⟩:=h.s s hs
 refine ⟨by rw[← e1,CU];omega,fun e he => ?_⟩
 rw[← e1] at he
 obtain ⟨f,-,rfl⟩:=mem_map.1 he
 cases f <;>simp[Ef.eff]
def cV (x:Nat):Prop:=x=0∨x=2147483648
theorem Wt {x:Nat} (h:cV x):CI .f32 x 0:=by
 rcases h with rfl | rfl
 ·exact Hs .f32
 ·exact Yh
theorem bc {x:Nat} (hf:CO x=true):∃ B,DX .f32 B∧B<p2 (GK .f32)∧fval .f32 x≤B ∧ -B≤fval .f32 x:=by
 obtain ⟨s,m,i,h1,h2,h3,h4⟩:=IY hf
 have hb:mv m i<p2 (GK .f32):=by
  obtain ⟨a1,a2,a3⟩:=DV h1
  have q:=(IA (m:=m) (n:=2 ^ 24) (e:=i)).2 (by omega)
  rw[CR] at q
  have q2:=It (show i+((24:Nat):Int)≤128 by omega)
  show mv m i<p2 128
  grind
 have:=Ap m i
 refine ⟨mv m i,⟨m,i,h3,h4,rfl⟩,hb,?_,?_⟩
 ·cases s <;>simp only[Cj,A5] at h2 <;>grind
 ·cases s <;>simp only[Cj,A5] at h2 <;>grind
theorem Wy {l z:Nat} (hl:BX l) (h0:l≠2147483648) (hz:cV z):Au .f32 l z=l∧Au .f32 z l=l:=by
 cases hf:CO l
 ·cases hn:isNaN .f32 l
  ·have h1:=Wd hn
   have h2:=hl.1
   unfold CO at hf
   simp only[decide_eq_false_iff_not] at hf
   have:l=2139095040∨l=4286578688:=by omega
   rcases hz with rfl | rfl <;>rcases this with rfl | rfl <;>decide
  ·have:l=D6 .f32:=by rw[← hl.2];exact BY hn
   rw[this]
   rcases hz with rfl | rfl <;>decide
 ·have hv:=IY hf
  by_cases hv0:fval .f32 l=0
  ·rw[hv0] at hv
   rcases KN hl.1 hv with rfl | rfl
   ·rcases hz with rfl | rfl <;>decide
   ·exact absurd rfl h0
  ·obtain ⟨B,b1,b2,b3,b4⟩:=bc hf
   have e1:fval .f32 l+0=fval .f32 l:=Rat.add_zero _
   have e2:0+fval .f32 l=fval .f32 l:=Rat.zero_add _
   obtain ⟨R,q1,q2⟩:=Lc hv (Wt hz) b1 b2 (by rw[e1];exact b3) (by rw[e1];exact b4)
   obtain ⟨R',r1,r2⟩:=Lc (Wt hz) hv b1 b2 (by rw[e2];exact b3) (by rw[e2];exact b4)
   rw[e1] at q2
   rw[e2] at r2
   exact ⟨Fr (R8 _ _ _) hl.1 (q1.near_eq q2 hv.rep) hv hv0,Fr (R8 _ _ _) hl.1 (r1.near_eq r2 hv.rep) hv hv0⟩
theorem WQ {s:Bool} {m:Nat} {e:Int} (hm:m≠0) (he : -149≤e):FloatKind.f32.format.nearest s m e≠2147483648:=by
 have hb:FloatKind.f32.format.binade=8388608:=by decide
 have hi:FloatKind.f32.format.infRung=2139095040:=rfl
 have hl:FloatKind.f32.format.leastPlace = -149:=by decide
 have hf:((FloatKind.f32.format.fractionBits:Nat):Int)=23:=rfl
 have hsw:FloatKind.f32.format.signWeight=2147483648:=rfl
 unfold Ieee.Format.nearest
 rw[if_neg hm]
 simp only[hf,hl,hb,hi]
 have key:1≤(max (e+(m.log2:Int) - 23) (-149) - -149).toNat * 8388608+Ieee.Toward.cut .even s (m <<< (e - max (e+(m.log2:Int) - 23) (-149)).toNat) (max (e+(m.log2:Int) - 23) (-149) - e).toNat:=by
  by_cases h : -149<e+(m.log2:Int) - 23
  ·have:1≤(max (e+(m.log2:Int) - 23) (-149) - -149).toNat:=by omega
   omega
  ·rw[show max (e+(m.log2:Int) - 23) (-149) = -149 by omega,show (-149 - e:Int).toNat=0 by omega,Nat.shiftLeft_eq]
   have hp:=Nat.two_pow_pos (e - -149).toNat
   have:0<m * 2 ^ (e - -149).toNat:=Nat.mul_pos (by omega) hp
   generalize m * 2 ^ (e - -149).toNat=q at this
   unfold Ieee.Toward.cut
   simp only[Nat.zero_min,Nat.shiftLeft_zero,Nat.div_one]
   omega
 generalize (max (e+(m.log2:Int) - 23) (-149) - -149).toNat * 8388608+Ieee.Toward.cut .even s (m <<< (e - max (e+(m.log2:Int) - 23) (-149)).toNat) (max (e+(m.log2:Int) - 23) (-149) - e).toNat=r at key
 unfold Ieee.Format.word
 rw[hsw]
 cases s
 ·simp;omega
 ·simp;omega
theorem YB {a:Nat} {i:Int} (ha:a<4294967296) (h:FloatKind.f32.decode a = .number true 0 i):a=2147483648:=by
 have h1:=(Hv h).2 (Cd i)
 have h2:=(EC h).2
 have h3:a % 2147483648=0:=h1
 have h4:(a / 2147483648 % 2==1)=true:=h2
 simp at h4
 omega
theorem Wa {a b:Nat} (ha:BX a) (h0:a≠2147483648):Au .f32 a b≠2147483648:=by
 have hq:D6 .f32≠2147483648:=by decide
 have hinf:∀ s,FloatKind.f32.format.write (.infinity s)≠2147483648:=by intro s;cases s <;>decide
 unfold Au Ieee.Format.add
 cases h1:FloatKind.f32.format.read a with
 | nan s t=>simpa [Ieee.Datum.sum] using hq
 | infinity s =>
   cases h2:FloatKind.f32.format.read b with
   | nan t u=>simpa [Ieee.Datum.sum] using hq
   | infinity t =>
     by_cases hst:s=t
     ·simpa [Ieee.Datum.sum,hst] using hinf t
     ·simpa [Ieee.Datum.sum,hst] using hq
   | number t n j=>simpa [Ieee.Datum.sum] using hinf s
 | number s m i =>
   cases h2:FloatKind.f32.format.read b with
   | nan t u=>simpa [Ieee.Datum.sum] using hq
   | infinity t=>simpa [Ieee.Datum.sum] using hinf t
   | number t n j =>
     have hl:FloatKind.f32.format.leastPlace = -149:=by decide
     have hi:=(CW (k:=.f32) (x:=a) h1).2.1
     have hj:=(CW (k:=.f32) (x:=b) h2).2.1
     rw[hl] at hi hj
     simp only[Ieee.Datum.sum,Option.map_some]
     show FloatKind.f32.format.nearest _ _ _≠_
     by_cases ht:Ieee.signed s m (i - min i j).toNat+Ieee.signed t n (j - min i j).toNat=0
     ·rw[if_pos ht,ht]
      show FloatKind.f32.format.word (s&&t) 0≠2147483648
      cases s
      ·rw[Bool.false_and];decide
      ·cases t
       ·rw[Bool.and_false];decide
       ·exfalso
        have p1:=Nat.two_pow_pos (i - min i j).toNat
        unfold Ieee.signed at ht
        simp only[if_true,Nat.shiftLeft_eq] at ht
        have hm:m * 2 ^ (i - min i j).toNat=0:=by omega
        have hm0:m=0:=by
         rcases Nat.mul_eq_zero.1 hm with h | h
         ·exact h
         ·omega
        subst hm0
        exact h0 (YB ha.1 h1)
     ·rw[if_neg ht]
      exact WQ (by omega) (by omega)
def ba (x y:Nat):Prop:=x=y∨(cV x∧cV y)
theorem cY:FloatKind.f32.format.read 0 = .number false 0 (-149):=by decide
theorem bn:FloatKind.f32.format.read 2147483648 = .number true 0 (-149):=by decide
theorem iA {x y:Nat} (g:Nat) (hx:cV x) (hy:cV y):ba (AM .f32 x g) (AM .f32 y g):=by
 have hw:∀ (s:Bool) (e:Int),cV (FloatKind.f32.format.write (.number s 0 e)):=by
  intro s e
  show cV (FloatKind.f32.format.nearest s 0 e)
  unfold Ieee.Format.nearest
  rw[if_pos rfl]
  cases s
  ·exact .inl (by decide)
  ·exact .inr (by decide)
 have key:∀ z,cV z→∃ s,FloatKind.f32.format.read z = .number s 0 (-149):=by
  rintro z (rfl | rfl)
  ·exact ⟨false,cY⟩
  ·exact ⟨true,bn⟩
 obtain ⟨s,hs⟩:=key x hx
 obtain ⟨t,ht⟩:=key y hy
 unfold AM Ieee.Format.mul
 rw[hs,ht]
 cases hg:FloatKind.f32.format.read g with
 | nan u v=>exact .inl rfl
 | infinity u=>exact .inl rfl
 | number u n j =>
   right
   simp only[Ieee.Datum.product,Option.map_some,Nat.zero_mul]
   exact ⟨hw _ _,hw _ _⟩
theorem ba.mul {x y:Nat} (h:ba x y) (g:Nat):ba (AM .f32 x g) (AM .f32 y g):=by
 rcases h with rfl | ⟨h1,h2⟩
 ·exact .inl rfl
 ·exact iA g h1 h2
theorem ba.add {x y l:Nat} (h:ba x y) (hl:BX l) (h0:l≠2147483648):Au .f32 l x=Au .f32 l y:=by
 rcases h with rfl | ⟨h1,h2⟩
 ·rfl
 ·rw[(Wy hl h0 h1).1,(Wy hl h0 h2).1]
theorem aH {y:Nat} (hy:BX y):ba (Au .f32 0 y) y:=by
 by_cases h:y=2147483648
 ·subst h
  exact .inr ⟨.inl (by decide),.inr rfl⟩
 ·exact .inl (Wy hy h (.inl rfl)).2
theorem cj {g:Nat} (h:Nz .f32 g 1065353216=true):FloatKind.f32.format.read g=FloatKind.f32.format.read 1065353216:=by
 have h1:FloatKind.f32.format.read 1065353216 = .number false 8388608 (-23):=by decide
 cases hg:FloatKind.f32.format.read g with
 | nan u v =>
   unfold Nz Ieee.Format.order at h
   rw[hg] at h
   simp[Ieee.Datum.order] at h
 | infinity u =>
   unfold Nz Ieee.Format.order at h
   rw[hg,h1] at h
   cases u <;>simp[Ieee.Datum.order] at h
 | number s m i =>
   have hv:=BL (k:=.f32) (x:=g) hg
   have he:=(W6 hv Hr).1 h
   have hm:=Ap m i
   have hs:s=false:=by
    cases s
    ·rfl
    ·simp only[Cj] at he;grind
   subst hs
   simp only[A5] at he
   obtain ⟨a1,a2,a3,-⟩:=CW (k:=.f32) (x:=g) hg
   obtain ⟨b1,b2,b3,-⟩:=CW (k:=.f32) (x:=1065353216) h1
   have ho:mv 8388608 (-23)=1:=by
    have:=BL (k:=.f32) (x:=1065353216) h1
    simp only[A5] at this
    exact this.inj Hr
   obtain ⟨rfl,rfl⟩:=Wu (k:=.f32) a1 b1 a2 b2 a3 b3 (by rw[he,ho])
   rw[h1]
theorem ZW {x g:Nat} (hx:BX x) (h:Nz .f32 g 1065353216=true):AM .f32 x g=x:=by
 have:AM .f32 x g=AM .f32 x 1065353216:=by
  unfold AM Ieee.Format.mul
  rw[cj h]
 rw[this,Th hx]
structure KE where
 xs:List Nat
 ten:Int
 pan:Nat
 mute:Bool
 solo:Bool
def Oc (t:KE):List T:=[.lst t.xs.length (AL .f32 t.xs),.int .i64 t.ten,.flt .f32 t.pan,.bool t.mute,.bool t.solo]
def Em (ts:List KE):List T:=ts.flatMap Oc
def ZB (t:KE):Prop:=t.xs.length≤256∧(-2000≤t.ten∧t.ten≤2000)∧Iw t.pan=true
def G5 (ts:List KE) (i:Nat):KE:=ts.getD i ⟨[],0,0,false,false⟩
theorem EI {c:Nat} (hc:c<5):∀ (ts:List KE) (i:Nat),i<ts.length→(Em ts)[i * 5+c]?=(Oc (G5 ts i))[c]?
 | [],i,h=>by simp at h
 | t::ts,0,_=>by
   show (Oc t++Em ts)[0 * 5+c]?=_
   rw[List.getElem?_append_left (by simp[Oc];omega),Nat.zero_mul,Nat.zero_add];rfl
 | t::ts,i+1,h=>by
   show (Oc t++Em ts)[(i+1) * 5+c]?=_
   rw[List.getElem?_append_right (by simp[Oc];omega),show (i+1) * 5+c - (Oc t).length=i * 5+c by simp[Oc];omega,EI hc ts i (by simpa using h)]
   rfl
section
variable {ts:List KE} {i:Nat} (h:i<ts.length)
include h
theorem nK:AI [.lst,.int .i64,.flt .f32,.bool,.bool] (Em ts) (i * 5+0)=true:=by
 have h0:=EI (c:=0) (by decide) ts i h
 have h1:=EI (c:=1) (by decide) ts i h
 have h2:=EI (c:=2) (by decide) ts i h
 have h3:=EI (c:=3) (by decide) ts i h
 have h4:=EI (c:=4) (by decide) ts i h
 simp only[Oc,List.getElem?_cons_zero,List.getElem?_cons_succ] at h0 h1 h2 h3 h4
 simp[AI,Nat.add_assoc,h1,h2,h3,h4,MY]
 rw[show i * 5=i * 5+0 from rfl,h0]
theorem nT:GZ (Em ts) (i * 5+0)=(G5 ts i).xs.length:=by unfold GZ;rw[EI (c:=0) (by decide) ts i h];rfl
theorem lT:HD (Em ts) (i * 5+0)=AL .f32 (G5 ts i).xs:=by unfold HD;rw[EI (c:=0) (by decide) ts i h];rfl
theorem iT:Ed (Em ts) (i * 5+0+1)=(G5 ts i).ten:=by unfold Ed;rw[show i * 5+0+1=i * 5+1 from rfl,EI (c:=1) (by decide) ts i h];rfl
theorem fT:BR (Em ts) (i * 5+0+1+1)=(G5 ts i).pan:=by unfold BR;rw[show i * 5+0+1+1=i * 5+2 from rfl,EI (c:=2) (by decide) ts i h];rfl
theorem bT:KA (Em ts) (i * 5+0+1+1+1)=(G5 ts i).mute:=by unfold KA;rw[show i * 5+0+1+1+1=i * 5+3 from rfl,EI (c:=3) (by decide) ts i h];rfl
theorem cT:KA (Em ts) (i * 5+0+1+1+1+1)=(G5 ts i).solo:=by unfold KA;rw[show i * 5+0+1+1+1+1=i * 5+4 from rfl,EI (c:=4) (by decide) ts i h];rfl
theorem Sp:ts.drop i=G5 ts i::ts.drop (i+1):=by
 rw[drop_eq_getElem_cons h]
 simp[G5,List.getD,h]
theorem cO:G5 ts i∈ts:=by
 have:G5 ts i=ts[i]:=by simp[G5,List.getD,h]
 rw[this];exact List.getElem_mem h
end
theorem ZH (acc:List KE) (t:KE):Em acc++AF (reps 1 [(T.lst 0 []),(T.int .i64 (0:Int)),(T.flt .f32 0),(T.bool false),(T.bool false)]) 0 (Oc t)=Em (acc++[t]):=by
 unfold Em
 rw[flatMap_append,flatMap_singleton];rfl
def GY (bs:List Bool):List T:=bs.map .bool
theorem Pt (p:List Bool) (b:Bool):GY p++AF (reps 1 [T.bool false]) 0 [T.bool b]=GY (p++[b]):=by simp[GY,AF,reps]
theorem Jo {bs:List Bool} {i:Nat}:KA (GY bs) i=bs.getD i false:=by
 unfold KA GY
 rw[List.getElem?_map]
 cases h:bs[i]? <;>simp[List.getD,h]
theorem H4 {bs:List Bool} {i:Nat} (h:i<bs.length):AI [.bool] (GY bs) i=true:=by
 unfold GY
 simp[AI,h,MY]
def hf (a:Bool) (t:KE):Bool:=if t.mute then false else if t.solo then true else !a
theorem Uw (n:Nat) (N:Nat) (cs:List T) (ts:List KE) (hl:ts.length≤100):∀ (j i m:Nat) (P Q:List Bool),i+j=ts.length→P.length≤i→Q.length≤i→j<m →
  f94.l0 n m N cs P.length (GY P) Q.length (GY Q) ts.length (Em ts) (ts.length:Int) (i:Int)=some ((P++(ts.drop i).map (·.mute)).length,GY (P++(ts.drop i).map (·.mute)),(Q++(ts.drop i).map (·.solo)).length,GY (Q++(ts.drop i).map (·.solo))):=by
 intro j
 induction j with
 | zero =>
   intro i m P Q hi hP hQ hm
   obtain ⟨m,rfl⟩:=zc m (by omega)
   rw[f94.l0,A8 (by omega),drop_eq_nil_of_le (by omega)]
   simp[br]
 | succ j ih =>
   intro i m P Q hi hP hQ hm
   obtain ⟨m,rfl⟩:=zc m (by omega)
   have h:i<ts.length:=by omega
   rw[f94.l0,Bf h,A1 h,zT,nK h]
   simp only[AV,zA,Ay,bT h,cT h,An (show P.length<2147483648 by omega),An (show Q.length<2147483648 by omega),Pt,AZ (show i<9223372036854775807 by omega)]
   rw[A6 (z:=(G5 ts i).mute),A6 (p:=Q) (z:=(G5 ts i).solo),ih (i+1) m _ _ (by omega) (by simp;omega) (by simp;omega) (by omega),Sp h]
   simp
theorem WS (n:Nat) (bs:List Bool) (hl:bs.length≤100):∀ (j i m:Nat),i+j=bs.length→j<m →
  ((bs.drop i).any id=true→∃ k:Nat,f151.l0 n m bs.length (GY bs) true (bs.length:Int) (i:Int)=some (Sum.inl (k:Int)))∧((bs.drop i).any id=false→f151.l0 n m bs.length (GY bs) true (bs.length:Int) (i:Int)=some (Sum.inr ())):=by
 intro j
 induction j with
 | zero =>
   intro i m hi hm
   obtain ⟨m,rfl⟩:=zc m (by omega)
   rw[drop_eq_nil_of_le (by omega),f151.l0,A8 (by omega)]
   exact ⟨fun h=>by simp at h,fun _=>rfl⟩
 | succ j ih =>
   intro i m hi hm
   obtain ⟨m,rfl⟩:=zc m (by omega)
   have h:i<bs.length:=by omega
   have hd:bs.drop i=bs.getD i false::bs.drop (i+1):=by
    rw[drop_eq_getElem_cons h];simp[List.getD,h]
   rw[f151.l0,Bf h,A1 h,zT,H4 h,Jo,hd,AZ (show i<9223372036854775807 by omega)]
   obtain ⟨i1,i2⟩:=ih (i+1) m (by omega) (by omega)
   cases hb:bs.getD i false
   ·simp only[any_cons,id,Bool.false_or]
    exact ⟨fun q=>i1 q,fun q=>i2 q⟩
   ·simp only[any_cons,id,Bool.true_or]
    exact ⟨fun _=>⟨i,rfl⟩,fun q=>by cases q⟩
theorem KL (n:Nat) (bs:List Bool) (hl:bs.length≤100) (hn:200<n):f118 (n+2) bs.length (GY bs) true=some (bs.any id):=by
 obtain ⟨h1,h2⟩:=WS n bs hl bs.length 0 n (by omega) (by omega)
 rw[drop_zero] at h1 h2
 rw[f118,f151]
 cases h:bs.any id
 ·have e:=h2 h
  have e:f151.l0 n n bs.length (GY bs) true (bs.length:Int) 0=_:=e
  rw[e];rfl
 ·obtain ⟨k,e⟩:=h1 h
  have e:f151.l0 n n bs.length (GY bs) true (bs.length:Int) 0=_:=e
  rw[e]
  simp only[AJ,mb]
  rw[decide_eq_true (by omega)]
theorem Sq {α:Type} (f:KE→Bool) {ts:List KE} {i:Nat} (h:i<ts.length):(ts.map f).getD i false=f (G5 ts i):=by simp[List.getD,G5,h]
theorem Pr (n:Nat) (N:Nat) (a:Bool) (ts:List KE) (hl:ts.length≤100):∀ (j i m:Nat) (P:List Bool),i+j=ts.length→P.length≤i→j<m →
  f97.l0 n m ts.length (GY (ts.map (·.mute))) ts.length (GY (ts.map (·.solo))) a P.length (GY P) ts.length (GY (ts.map (·.mute))) (ts.length:Int) (i:Int)=some ((P++(ts.drop i).map (hf a)).length,GY (P++(ts.drop i).map (hf a))):=by
 intro j
 induction j with
 | zero =>
   intro i m P hi hP hm
   obtain ⟨m,rfl⟩:=zc m (by omega)
   rw[f97.l0,A8 (by omega),drop_eq_nil_of_le (by omega)]
   simp[br]
 | succ j ih =>
   intro i m P hi hP hm
   obtain ⟨m,rfl⟩:=zc m (by omega)
   have h:i<ts.length:=by omega
   rw[f97.l0,Bf h,A1 h,zT,H4 (show i<(ts.map (·.mute)).length by simpa using h),H4 (show i<(ts.map (·.solo)).length by simpa using h),Jo,Jo,Sq (α:=Unit) (·.mute) h,Sq (α:=Unit) (·.solo) h]
   simp only[AV,zA,Ay,An (show P.length<2147483648 by omega),Pt,AZ (show i<9223372036854775807 by omega)]
   have key:∀ b,hf a (G5 ts i)=b→f97.l0 n m ts.length (GY (ts.map (·.mute))) ts.length (GY (ts.map (·.solo))) a (P.length+1) (GY (P++[b])) ts.length (GY (ts.map (·.mute))) (ts.length:Int) ((i+1:Nat):Int)=some ((P++(ts.drop i).map (hf a)).length,GY (P++(ts.drop i).map (hf a))):=by
    intro b hb
    rw[A6 (z:=b),ih (i+1) m _ (by omega) (by simp;omega) (by omega),Sp h,map_cons,hb]
    simp
   unfold hf at key
   cases hm':(G5 ts i).mute
   ·cases hs:(G5 ts i).solo
    ·simp only[Bool.not_false,AV,Af]
     exact key _ (by simp[hm',hs])
    ·simp only[Bool.not_false,AV]
     exact key _ (by simp[hm',hs])
   ·simp only[Bool.not_true,Af]
    exact key _ (by simp[hm'])
def GH (ts:List KE):Bool:=ts.any (·.solo)
theorem Qa (n:Nat) (ts:List KE) (hl:ts.length≤100) (hn:300<n):f94 (n+4) ts.length (Em ts)=some ((ts.map (hf (GH ts))).length,GY (ts.map (hf (GH ts)))):=by
 have e:=Uw (n+3) ts.length (Em ts) ts hl ts.length 0 (n+3) [] [] (by omega) (by simp) (by simp) (by omega)
 simp only[drop_zero,nil_append] at e
 have e:f94.l0 (n+3) (n+3) ts.length (Em ts) 0 [] 0 [] ts.length (Em ts) (ts.length:Int) 0=_:=e
 have e2:=KL n (ts.map (·.solo)) (by simpa using hl) (by omega)
 have ha:(ts.map (·.solo)).any id=GH ts:=by unfold GH;rw[any_map];rfl
 rw[ha,length_map] at e2
 have e3:=Pr (n+2) ts.length (GH ts) ts hl ts.length 0 (n+2) [] (by omega) (by simp) (by omega)
 simp only[drop_zero,nil_append] at e3
 have e3:f97.l0 (n+2) (n+2) ts.length (GY (ts.map (·.mute))) ts.length (GY (ts.map (·.solo))) (GH ts) 0 [] ts.length (GY (ts.map (·.mute))) (ts.length:Int) 0=_:=e3
 rw[f94,e]
 simp only[AJ,length_map]
 rw[f97]
 simp only[e2,AJ,e3,length_map]
def ints (ks:List Nat):List Int:=List.map (fun k:Nat=>(k:Int)) ks
def Q8 (x:Nat):List Nat→Nat→Nat
 | [],a=>a
 | k::ks,a=>Q8 x ks (Au .f64 4607182418800017408 (fdiv .f64 (AM .f64 x a) k))
def U2:Nat→List Nat→Bool
 | w,[] => !Ly .f64 w 4607182418800017408
 | w,k::ks=>(w==k)&&Ly .f64 w 4607182418800017408&&U2 (BW .f64 w 4607182418800017408) ks
def OX:Nat→List Nat
 | 0=>[]
 | j+1=>FloatKind.f64.nearest ((j+1:Nat):Int)::OX j
theorem cg:U2 4622945017495814144 (OX 12)=true:=by decide +kernel
theorem UJ (n x:Nat):∀ (ks:List Nat) (w a m:Nat),U2 w ks=true→ks.length<m→f116.l0 n m x a w=some (Q8 x ks a)
 | [],w,a,m,h,hm=>by
   obtain ⟨m,rfl⟩:=zc m (by simp at hm;omega)
   unfold U2 at h
   rw[f116.l0,show Ly .f64 w 4607182418800017408=false by simpa using h];rfl
 | k::ks,w,a,m,h,hm=>by
   obtain ⟨m,rfl⟩:=zc m (by simp at hm;omega)
   unfold U2 at h
   simp only[zB,beq_iff_eq] at h
   obtain ⟨⟨rfl,h2⟩,h3⟩:=h
   rw[f116.l0,h2]
   exact UJ n x ks _ _ m h3 (by simp at hm;omega)
def le:Nat→Nat→Nat
 | 0,x=>x
 | j+1,x=>le j (AM .f64 x x)
theorem Ta (n:Nat):∀ (j i m x:Nat),i+j=8→j<m→f116.l1 n m x (i:Int)=some (le j x)
 | 0,i,m,x,hi,hm=>by
   obtain ⟨m,rfl⟩:=zc m (by omega)
   rw[f116.l1,decide_eq_false (by omega)];rfl
 | j+1,i,m,x,hi,hm=>by
   obtain ⟨m,rfl⟩:=zc m (by omega)
   rw[f116.l1,decide_eq_true (by omega),AZ (show i<9223372036854775807 by omega)]
   exact Ta n j (i+1) m _ (by omega) (by omega)
theorem OW (n:Nat) (q:Rat) (h:((2 ^ n:Nat):Rat)=q):p2 (n:Int)=q:=by rw[LH,h]
theorem Id (k:FloatKind) (n:Nat) (q:Rat) (h:((2 ^ n:Nat):Rat)=q) (hn:n≤64):DX k q∧q<p2 (GK k):=by
 rw[← OW n q h]
 refine ⟨QD k ?_,KV ?_⟩
 ·cases k
  ·show (-149:Int)≤n;omega
  ·show (-1074:Int)≤n;omega
 ·cases k
  ·show (n:Int)<128;omega
  ·show (n:Int)<1024;omega
theorem M1 {a b A B:Rat} (ha : -A≤a) (ha':a≤A) (hb : -B≤b) (hb':b≤B) (hA:0≤A) (hB:0≤B):a * b≤A * B ∧ -(A * B)≤a * b:=by
 have h1:=Rat.mul_nonneg (show 0≤A - a by grind) (show 0≤B - b by grind)
 have h2:=Rat.mul_nonneg (show 0≤A+a by grind) (show 0≤B+b by grind)
 have h3:=Rat.mul_nonneg (show 0≤A - a by grind) (show 0≤B+b by grind)
 have h4:=Rat.mul_nonneg (show 0≤A+a by grind) (show 0≤B - b by grind)
 constructor <;>grind
theorem FZ {k:FloatKind} {v R B:Rat} (h:Lr k v R) (hB:DX k B) (h1 : -B≤v) (h2:v≤B) : -B≤R∧R≤B:=⟨(h _ hB.neg).2 h1,(h _ hB.rep).1 h2⟩
def Tf (i:Int):Nat:=AM .f64 (FloatKind.f64.nearest i) 4577790371455803420
def gx (i:Int):Nat:=le 8 (Q8 (fdiv .f64 (Tf i) 4643211215818981376) (OX 12) 4607182418800017408)
def gT (i:Int):Nat:=(Ar .f64 (gx i) .f32).getD 0
theorem JC (m n:Nat) (q:Rat) (hm:m≤9007199254740992) (hn:n≤60) (h:q * ((2 ^ n:Nat):Rat)=(m:Rat)):DX .f64 q:=by
 refine ⟨m,-(n:Int),hm,by show (-1074:Int) ≤ -(n:Int);omega,?_⟩
 have h2:p2 (-(n:Int)) * p2 (n:Int)=1:=by
  rw[← Hf,show -(n:Int)+(n:Int)=0 by omega];exact Cp
 rw[LH] at h2
 unfold mv
 rw[← h]
 generalize ((2 ^ n:Nat):Rat)=X at h2
 generalize p2 (-(n:Int))=Y at h2
 grind
theorem RH (q:Rat) (h:q≤18446744073709551616):q<p2 (GK .f64):=by
 have h1:p2 64=18446744073709551616:=OW 64 _ (by rfl)
 have h2:p2 64<p2 1024:=KV (by decide +kernel)
 exact hZ (h1 ▸ h) h2
theorem db {Q D b:Rat} (hD:1≤D) (h1 : -b≤Q) (h2:Q≤b) (hb:0≤b) : -b≤Q / D∧Q / D≤b:=by
 have hdiv:Q / D * D=Q:=Rat.div_mul_cancel (by grind)
 constructor
 ·rcases (Rat.le_total : -b≤Q / D∨Q / D ≤ -b) with h | h
  ·exact h
  ·have h3:=Rat.mul_nonneg (show 0 ≤ -b - Q / D by grind) (show 0≤D - 1 by grind)
   have h4:=Rat.mul_nonneg hb (show 0≤D - 1 by grind)
   grind
 ·rcases (Rat.le_total:Q / D≤b∨b≤Q / D) with h | h
  ·exact h
  ·have h3:=Rat.mul_nonneg (show 0≤Q / D - b by grind) (show 0≤D - 1 by grind)
   have h4:=Rat.mul_nonneg hb (show 0≤D - 1 by grind)
   grind
theorem Zj {t p d:Nat} {T P D:Rat} (ht:CI .f64 t T) (hp:CI .f64 p P) (hd:CI .f64 d D) (t0 : -(3 / 32)≤T) (t1:T≤3 / 32) (p0:0≤P) (p1:P≤9 / 8) (d1:1≤D):∃ R,CI .f64 (Au .f64 4607182418800017408 (fdiv .f64 (AM .f64 t p) d)) R∧0≤R∧R≤9 / 8:=by
 have r1:DX .f64 (27 / 256):=JC 27 8 _ (by decide +kernel) (by decide +kernel) (by decide +kernel)
 have r2:DX .f64 (9 / 8):=JC 9 3 _ (by decide +kernel) (by decide +kernel) (by decide +kernel)
 obtain ⟨m1,m2⟩:=M1 (A:=3 / 32) (B:=9 / 8) t0 t1 (show -(9 / 8)≤P by grind) p1 (by decide +kernel) (by decide +kernel)
 obtain ⟨Q,q1,q2⟩:=FW ht hp r1 (RH _ (by decide +kernel)) (by grind) (by grind)
 obtain ⟨b1,b2⟩:=FZ q2 r1 (by grind) (by grind)
 obtain ⟨c1,c2⟩:=db d1 b1 b2 (by decide +kernel)
 obtain ⟨S,s1,s2⟩:=Lv q1 hd (by grind) r1 (RH _ (by decide +kernel)) c2 c1
 obtain ⟨e1,e2⟩:=FZ s2 r1 c1 c2
 obtain ⟨R,w1,w2⟩:=Lc J0 s1 r2 (RH _ (by decide +kernel)) (by grind) (by grind)
 exact ⟨R,w1,(w2 0 (Zq _)).2 (by grind),(w2 _ r2.rep).1 (by grind)⟩
theorem Wb {t:Nat} {T:Rat} (ht:CI .f64 t T) (t0 : -(3 / 32)≤T) (t1:T≤3 / 32):∀ (j p:Nat) (P:Rat),j≤1000→CI .f64 p P→0≤P→P≤9 / 8→∃ R,CI .f64 (Q8 t (OX j) p) R∧0≤R∧R≤9 / 8
 | 0,p,P,_,hp,p0,p1=>⟨P,hp,p0,p1⟩
 | j+1,p,P,hj,hp,p0,p1=>by
   have hd:CI .f64 (FloatKind.f64.nearest ((j+1:Nat):Int)) (((j+1:Nat):Int):Rat):=Dg (by show ((j+1:Nat):Int).natAbs≤2 * 4503599627370496;omega)
   have h1:(1:Rat)≤(((j+1:Nat):Int):Rat):=by
    have:(1:Int)≤((j+1:Nat):Int):=by omega
    exact_mod_cast this
   obtain ⟨R,r1,r2,r3⟩:=Zj ht hp hd t0 t1 p0 p1 h1
   exact Wb ht t0 t1 j _ R (by omega) r1 r2 r3
theorem Jh {x:Nat} {X B C:Rat} (hx:CI .f64 x X) (h0:0≤X) (h1:X≤B) (hC:DX .f64 C) (hB:B * B≤C) (hT:C≤18446744073709551616):∃ Y,CI .f64 (AM .f64 x x) Y∧0≤Y∧Y≤C:=by
 have m0:=Rat.mul_nonneg h0 h0
 have hB0:0≤B:=by grind
 obtain ⟨m1,m2⟩:=M1 (A:=B) (B:=B) (show -B≤X by grind) h1 (show -B≤X by grind) h1 hB0 hB0
 obtain ⟨Y,y1,y2⟩:=FW hx hx hC (RH _ hT) (by grind) (by grind)
 exact ⟨Y,y1,(y2 0 (Zq _)).2 m0,(y2 _ hC.rep).1 (by grind)⟩
theorem bU {k:Int} (h : -2000≤k∧k≤2000):∃ R,CI .f64 (Tf k) R ∧ -(375 / 16)≤R∧R≤375 / 16:=by
 have hk:CI .f64 (FloatKind.f64.nearest k) (k:Rat):=Dg (by show k.natAbs≤2 * 4503599627370496;omega)
 have k1:(-2000:Rat)≤(k:Rat):=Rat.intCast_le_intCast.2 h.1
 have k2:(k:Rat)≤2000:=Rat.intCast_le_intCast.2 h.2
 have hc:=BL (k:=.f64) (x:=4577790371455803420) (s:=false) (m:=6636749674749980) (e:=-59) (by decide +kernel)
 rw[A5] at hc
 have c0:=Ap 6636749674749980 (-59)
 have c1:mv 6636749674749980 (-59)≤3 / 256:=by
  have h2:mv 6636749674749980 (-59)≤mv (3 * 2 ^ 51) (-59):=C4.2 (by decide +kernel)
  rw[Bo] at h2
  have h3:p2 (-8) * 256=1:=by
   have:p2 (-8) * p2 8=1:=by rw[← Hf];exact Cp
   rwa [show p2 8=256 from OW 8 _ (by rfl)] at this
  have h4:mv 3 (-59+(51:Nat))=3 * p2 (-8):=rfl
  grind
 have r1:DX .f64 (375 / 16):=JC 375 4 _ (by decide +kernel) (by decide +kernel) (by decide +kernel)
 obtain ⟨m1,m2⟩:=M1 (A:=2000) (B:=3 / 256) k1 k2 (show -(3 / 256)≤mv 6636749674749980 (-59) by grind) c1 (by decide +kernel) (by decide +kernel)
 obtain ⟨R,q1,q2⟩:=FW hk hc r1 (RH _ (by decide +kernel)) (by grind) (by grind)
 obtain ⟨b1,b2⟩:=FZ q2 r1 (by grind) (by grind)
 exact ⟨R,q1,b1,b2⟩
theorem JU {n:Int} {w:Nat} {q:Rat} (h:FloatKind.f64.nearest n=w) (hn:n.natAbs≤9007199254740992) (hq:(n:Rat)=q):CI .f64 w q:=by rw[← h,← hq];exact Dg hn
theorem aK {k:Int} (h : -2000≤k∧k≤2000):isNaN .f64 (Tf k)=false∧F4 .f64 (Tf k) 4641240890982006784=false∧flt .f64 (Tf k) 13864612927836782592=false∧∃ y,Ar .f64 (gx k) .f32=some y:=by
 obtain ⟨A,a1,a2,a3⟩:=bU h
 have v200:CI .f64 4641240890982006784 200:=JU (n:=200) (by decide +kernel) (by decide +kernel) (by rfl)
 have vm200:CI .f64 13864612927836782592 (-200):=JU (n:=-200) (by decide +kernel) (by decide +kernel) (by rfl)
 have v256:CI .f64 4643211215818981376 256:=JU (n:=256) (by decide +kernel) (by decide +kernel) (by rfl)
 refine ⟨a1.num,?_,?_,?_⟩
 ·rw[Bool.eq_false_iff];intro h;have:=(W0 a1 v200).1 h;grind
 ·rw[Bool.eq_false_iff];intro h;have:=(N6 a1 vm200).1 h;grind
 have r1:DX .f64 (3 / 32):=JC 3 5 _ (by decide +kernel) (by decide +kernel) (by decide +kernel)
 have hdiv:A / 256 * 256=A:=Rat.div_mul_cancel (by decide +kernel)
 obtain ⟨Tt,t1,t2⟩:=Lv a1 v256 (by decide +kernel) r1 (RH _ (by decide +kernel)) (by grind) (by grind)
 obtain ⟨t3,t4⟩:=FZ t2 r1 (by grind) (by grind)
 obtain ⟨P,p1,p3,p4⟩:=Wb t1 t3 t4 12 _ 1 (by decide +kernel) J0 (by decide +kernel) (by decide +kernel)
 obtain ⟨X1,x1,y1,z1⟩:=Jh (B:=9 / 8) (C:=11 / 8) p1 p3 p4 (JC 11 3 _ (by decide +kernel) (by decide +kernel) (by decide +kernel)) (by decide +kernel) (by decide +kernel)
 obtain ⟨X2,x2,y2,z2⟩:=Jh (C:=2) x1 y1 z1 (JC 2 0 _ (by decide +kernel) (by decide +kernel) (by decide +kernel)) (by decide +kernel) (by decide +kernel)
 obtain ⟨X3,x3,y3,z3⟩:=Jh (C:=4) x2 y2 z2 (JC 4 0 _ (by decide +kernel) (by decide +kernel) (by decide +kernel)) (by decide +kernel) (by decide +kernel)
 obtain ⟨X4,x4,y4,z4⟩:=Jh (C:=16) x3 y3 z3 (JC 16 0 _ (by decide +kernel) (by decide +kernel) (by decide +kernel)) (by decide +kernel) (by decide +kernel)
 obtain ⟨X5,x5,y5,z5⟩:=Jh (C:=256) x4 y4 z4 (JC 256 0 _ (by decide +kernel) (by decide +kernel) (by decide +kernel)) (by decide +kernel) (by decide +kernel)
 obtain ⟨X6,x6,y6,z6⟩:=Jh (C:=65536) x5 y5 z5 (JC 65536 0 _ (by decide +kernel) (by decide +kernel) (by decide +kernel)) (by decide +kernel) (by decide +kernel)
 obtain ⟨X7,x7,y7,z7⟩:=Jh (C:=4294967296) x6 y6 z6 (JC 4294967296 0 _ (by decide +kernel) (by decide +kernel) (by decide +kernel)) (by decide +kernel) (by decide +kernel)
 obtain ⟨X8,x8,y8,z8⟩:=Jh (C:=18446744073709551616) x7 y7 z7 (Id .f64 64 _ (by rfl) (by decide +kernel)).1 (by decide +kernel) (by decide +kernel)
 have hE:gx k=gx k:=rfl
 refine KG (k:=.f64) (k' :=.f32) (x:=gx k) (E:=((64:Nat):Int)) (by decide +kernel) (by decide +kernel) (by decide +kernel) (fun s m e hd => ?_)
 have hv:=(BL hd).inj x8
 rw[OW 64 18446744073709551616 (by rfl)]
 exact M6 (Ap _ _) (by rw[hv];exact z8) (by rw[hv];grind)
theorem Zg (n:Nat) {k:Int} (h : -2000≤k∧k≤2000):f95 (n+30) k=some (gT k,true):=by
 obtain ⟨h0,h1,h2,y,hy⟩:=aK h
 have hM:gT k=y:=by unfold gT;rw[hy];rfl
 have ht:=UZ (n+27) k
 rw[decide_eq_true h] at ht
 have ht:f89 (n+29) k=some true:=ht
 have ha:AM .f64 (FloatKind.f64.nearest k) 4577790371455803420=Tf k:=rfl
 rw[hM,f95,ht]
 simp only[AJ,Bool.not_true,Af]
 rw[ha,f116,h1,h2]
 have e:=Ta (n+28) 8 0 (n+28) (Q8 (fdiv .f64 (Tf k) 4643211215818981376) (OX 12) 4607182418800017408) (by omega) (by omega)
 have e:f116.l1 (n+28) (n+28) (Q8 (fdiv .f64 (Tf k) 4643211215818981376) (OX 12) 4607182418800017408) 0=some (gx k):=e
 simp only[Af,UJ (n+28) _ (OX 12) 4622945017495814144 4607182418800017408 (n+28) cg (by show 12<n+28;omega),AJ,e,hy]
def am (u:Nat):List Nat→Nat→Nat
 | [],p=>p
 | d::ds,p=>am u ds (BW .f64 4607182418800017408 (fdiv .f64 (AM .f64 u p) d))
def dK:Nat→List Nat
 | 0=>[]
 | j+1=>FloatKind.f64.nearest (2 * ((j+1:Nat):Int) * (2 * ((j+1:Nat):Int)+1))::dK j
def QF:Nat→List Nat→Bool
 | w,[] => !Ly .f64 w 4607182418800017408
 | w,d::ds=>Ly .f64 w 4607182418800017408&&(AM .f64 (AM .f64 4611686018427387904 w) (Au .f64 (AM .f64 4611686018427387904 w) 4607182418800017408)==d)&&QF (BW .f64 w 4607182418800017408) ds
theorem Yw:QF 4620693217682128896 (dK 8)=true:=by decide +kernel
theorem UC (n:Nat) (b:Bool) (x u:Nat):∀ (ds:List Nat) (w p m:Nat),QF w ds=true→ds.length<m→f150.l0 n m b x u p w=some (b,x,am u ds p)
 | [],w,p,m,h,hm=>by
   obtain ⟨m,rfl⟩:=zc m (by simp at hm;omega)
   unfold QF at h
   rw[f150.l0,show Ly .f64 w 4607182418800017408=false by simpa using h];rfl
 | d::ds,w,p,m,h,hm=>by
   obtain ⟨m,rfl⟩:=zc m (by simp at hm;omega)
   unfold QF at h
   simp only[zB,beq_iff_eq] at h
   obtain ⟨⟨h1,h2⟩,h3⟩:=h
   rw[f150.l0,h1,h2]
   exact UC n b x u ds _ _ m h3 (by simp at hm;omega)
theorem V0 {x:Nat} {a:Rat} (hx:CI .f64 x a) (h0:0≤a) (h1:a<1):Nz .f64 (Bw .zero x) 0=true∧EE .f64 x .i64=some 0:=by
 obtain ⟨n,e,hn,-⟩:=Sr (N:=1) hx h0 (by simpa using h1) (by decide)
 have:n=0:=by omega
 subst this
 refine ⟨?_,e⟩
 obtain ⟨s,m,i,e1,-⟩:=hx
 unfold EE at e
 simp only[Ieee.Datum.toInt,e1,Ieee.Datum.integral,Ls] at e
 unfold Bw
 rw[e1]
 show Nz .f64 (FloatKind.f64.encode (.number s (Ieee.Toward.cut .zero s (m <<< i.toNat) (-i).toNat) 0)) 0=true
 rw[Ls]
 generalize (m <<< i.toNat) / 2 ^ (-i).toNat=q at e
 split at e
 ·simp only[zS] at e
  have hq:q=0:=by
   unfold Ieee.signed at e
   cases s <;>simp at e <;>omega
  subst hq
  cases s <;>decide
 ·cases e
theorem WA:CI .f32 1082130432 4:=by
 have:=Dg (k:=.f32) (n:=4) (by decide)
 rw[show FloatKind.f32.nearest 4=1082130432 by decide] at this
 exact this
theorem dP:p2 (-2) * 4=1:=by
 have:p2 (-2) * p2 2=1:=by rw[← Hf];exact Cp
 rwa [show p2 2=4 by rw[show (2:Int)=((2:Nat):Int) from rfl,LH];rfl] at this
theorem We {x:Nat} {v:Rat} (hx:CI .f32 x v) (h0:0≤v) (h1:v≤1):∃ R,CI .f32 (fdiv .f32 x 1082130432) R∧0≤R∧R * 4≤1:=by
 have hp:=dP
 have hR0:DX .f32 (p2 (-2)):=QD .f32 (by decide)
 have htop:p2 (-2)<p2 (GK .f32):=KV (by decide)
 have hd:v / 4 * 4=v:=by grind
 obtain ⟨R,q1,q2⟩:=Lv hx WA (by grind) hR0 htop (by grind) (by grind)
 exact ⟨R,q1,(q2 0 (Zq _)).2 (by grind),by have:=(q2 _ hR0.rep).1 (by grind);grind⟩
theorem Z4 {x:Nat} {v:Rat} (hx:CI .f32 x v) (h0:0≤v) (h1:v≤1):∃ R,CI .f32 (BW .f32 1065353216 x) R∧0≤R∧R≤1:=by
 have hR0:DX .f32 (p2 0):=QD .f32 (by decide)
 have htop:p2 0<p2 (GK .f32):=KV (by decide)
 have hz:=Cp
 obtain ⟨R,q1,q2⟩:=LV Hr hx hR0 htop (by grind) (by grind)
 exact ⟨R,q1,(q2 0 (Zq _)).2 (by grind),by have:=(q2 _ hR0.rep).1 (by grind);grind⟩
theorem bK {x:Nat} (h:Iw x=true):∃ v,CI .f32 x v∧0≤v∧v≤1:=by
 unfold Iw at h
 simp only[zB] at h
 obtain ⟨h1,h2⟩:=h
 cases hx:FloatKind.f32.decode x with
 | number s m e =>
   have hv:=BL hx
   exact ⟨_,hv,(LO hv (Hs _)).1 h1,(SR hv Hr).1 h2⟩
 | infinity s =>
   exfalso
   have e2:FloatKind.f32.format.read 0 = .number false 0 (-149):=by decide
   have e3:FloatKind.f32.format.read 1065353216 = .number false 8388608 (-23):=by decide
   have hx:FloatKind.f32.format.read x = .infinity s:=hx
   cases s
   ·simp[VQ,Ieee.Format.order,hx,e3,Ieee.Datum.order] at h2
   ·simp[Ly,Ieee.Format.order,hx,e2,Ieee.Datum.order] at h1
 | nan s t =>
   exfalso
   have hx:FloatKind.f32.format.read x = .nan s t:=hx
   simp[VQ,Ieee.Format.order,hx,Ieee.Datum.order] at h2
theorem Yv:∃ C,CI .f64 4618760256179416344 C∧0≤C∧C≤7:=by
 have h:=BL (k:=.f64) (x:=4618760256179416344) (s:=false) (m:=7074237752028440) (e:=-50) (by decide)
 refine ⟨_,h,Ap _ _,?_⟩
 rw[A5]
 have h2:mv 7074237752028440 (-50)≤mv (7 * 2 ^ 50) (-50):=C4.2 (by decide)
 rw[Bo] at h2
 have h3:mv 7 (-50+(50:Nat))=7:=by
  unfold mv;rw[show (-50+((50:Nat):Int))=0 by decide,Cp,Rat.mul_one];rfl
 rw[h3] at h2
 exact h2
theorem Q6:DX .f64 3:=⟨3,0,by decide,by decide,by unfold mv;rw[Cp,Rat.mul_one];rfl⟩
theorem aE {u p d:Nat} {U P D:Rat} (hu:CI .f64 u U) (hp:CI .f64 p P) (hd:CI .f64 d D) (u0 : -4≤U) (u1:U≤4) (p0 : -4≤P) (p1:P≤4) (d6:6≤D):∃ R,CI .f64 (BW .f64 4607182418800017408 (fdiv .f64 (AM .f64 u p) d)) R ∧ -4≤R∧R≤4:=by
 obtain ⟨r16,t16⟩:=Id .f64 4 16 (by rfl) (by decide)
 obtain ⟨r4,t4⟩:=Id .f64 2 4 (by rfl) (by decide)
 obtain ⟨m1,m2⟩:=M1 (A:=4) (B:=4) u0 u1 p0 p1 (by decide) (by decide)
 obtain ⟨Q,q1,q2⟩:=FW hu hp r16 t16 (by grind) (by grind)
 obtain ⟨b1,b2⟩:=FZ q2 r16 (by grind) (by grind)
 have hdiv:Q / D * D=Q:=Rat.div_mul_cancel (by grind)
 have t3:(3:Rat)<p2 (GK .f64):=by
  have:(3:Rat)<4:=by decide
  grind
 have e1:Q / D≤3:=by
  rcases (Rat.le_total:Q / D≤3∨3≤Q / D) with h | h
  ·exact h
  ·have:=Rat.mul_nonneg (show 0≤Q / D - 3 by grind) (show 0≤D - 6 by grind)
   grind
 have e2 : -3≤Q / D:=by
  rcases (Rat.le_total : -3≤Q / D∨Q / D ≤ -3) with h | h
  ·exact h
  ·have:=Rat.mul_nonneg (show 0 ≤ -3 - Q / D by grind) (show 0≤D - 6 by grind)
   grind
 obtain ⟨S,s1,s2⟩:=Lv q1 hd (by grind) Q6 t3 e1 e2
 obtain ⟨c1,c2⟩:=FZ s2 Q6 e2 e1
 obtain ⟨R,w1,w2⟩:=LV J0 s1 r4 t4 (by grind) (by grind)
 obtain ⟨d1,d2⟩:=FZ w2 r4 (by grind) (by grind)
 exact ⟨R,w1,d1,d2⟩
theorem W7 {u:Nat} {U:Rat} (hu:CI .f64 u U) (u0 : -4≤U) (u1:U≤4):∀ (ds:List Nat) (p:Nat) (P:Rat),(∀ d∈ds,∃ D,CI .f64 d D∧6≤D)→CI .f64 p P → -4≤P→P≤4→∃ R,CI .f64 (am u ds p) R ∧ -4≤R∧R≤4
 | [],p,P,_,hp,p0,p1=>⟨P,hp,p0,p1⟩
 | d::ds,p,P,hd,hp,p0,p1=>by
   obtain ⟨D,d1,d2⟩:=hd d (by simp)
   obtain ⟨R,r1,r2,r3⟩:=aE hu hp d1 u0 u1 p0 p1 d2
   exact W7 hu u0 u1 ds _ R (fun d h=>hd d (by simp[h])) r1 r2 r3
theorem cG:∀ d∈dK 8,∃ D,CI .f64 d D∧6≤D:=by
 intro d hd
 have e:dK 8=([272,210,156,110,72,42,20,6]:List Int).map fun k=>FloatKind.f64.nearest k:=rfl
 rw[e] at hd
 obtain ⟨k,hk,rfl⟩:=mem_map.1 hd
 have hk:6≤k∧k≤272:=by
  simp only[mem_cons,not_mem_nil,or_false] at hk
  omega
 refine ⟨(k:Rat),Dg (by show k.natAbs≤2 * 4503599627370496;omega),?_⟩
 exact_mod_cast hk.1
def Qr (a:Nat):Nat:=AM .f64 (BW .f64 (CY a) 0) 4618760256179416344
def aT (a:Nat):Nat:=(Ar .f64 (AM .f64 (Qr a) (am (AM .f64 (Qr a) (Qr a)) (dK 8) 4607182418800017408)) .f32).getD 0
theorem bJ (n x:Nat):f178 (n+2) x=some (Bw .zero x):=by rw[f178];rfl
theorem TR (n:Nat) {a:Nat} {R:Rat} (ha:CI .f32 a R) (h0:0≤R) (h1:R * 4≤1):f117 (n+30) a=some (aT a):=by
 have hw:=VA ha
 have hz:=Hs .f64
 have hnan:isNaN .f32 a=false:=ha.num
 obtain ⟨r1,t1⟩:=Id .f64 0 1 (by rfl) (by decide)
 obtain ⟨r2,t2⟩:=Id .f64 1 2 (by rfl) (by decide)
 obtain ⟨r4,t4⟩:=Id .f64 2 4 (by rfl) (by decide)
 obtain ⟨r8,t8⟩:=Id .f64 3 8 (by rfl) (by decide)
 obtain ⟨F,f1,f2⟩:=LV hw hz r1 t1 (by grind) (by grind)
 have hF:=f1.near_eq f2 (by rw[show R - 0=R by grind];exact hw.rep)
 rw[show R - 0=R by grind] at hF
 obtain ⟨G,g1,g2⟩:=LV hw hw r1 t1 (by grind) (by grind)
 have hG:=g1.near_eq g2 (by rw[show R - R=0 by grind];exact Zq _)
 rw[show R - R=0 by grind] at hG
 have hfin:Nz .f64 (BW .f64 (CY a) (CY a)) 0=true:=(W6 hG hz).2 rfl
 obtain ⟨tz,ti⟩:=V0 hw h0 (by grind)
 have hhalf:CI .f64 4602678819172646912 (p2 (-1)):=by
  have:=BL (k:=.f64) (x:=4602678819172646912) (s:=false) (m:=4503599627370496) (e:=-53) (by decide)
  rw[A5,show (4503599627370496:Nat)=2 ^ 52 from rfl,CR] at this
  exact this
 have hquart:CI .f64 4598175219545276416 (p2 (-2)):=by
  have:=BL (k:=.f64) (x:=4598175219545276416) (s:=false) (m:=4503599627370496) (e:=-54) (by decide)
  rw[A5,show (4503599627370496:Nat)=2 ^ 52 from rfl,CR] at this
  exact this
 have hp1:p2 (-1) * 2=1:=by
  have:p2 (-1) * p2 1=1:=by rw[← Hf];exact Cp
  rwa [em] at this
 have hp2:=dP
 have c1:flt .f64 (BW .f64 (CY a) 0) 0=false:=by
  rw[Bool.eq_false_iff];intro h;have:=(N6 hF hz).1 h;grind
 have c2:Ly .f64 (BW .f64 (CY a) 0) 4602678819172646912=false:=by
  rw[Bool.eq_false_iff];intro h;have:=(LO hF hhalf).1 h;grind
 have c3:F4 .f64 (BW .f64 (CY a) 0) 4598175219545276416=false:=by
  rw[Bool.eq_false_iff];intro h;have:=(W0 hF hquart).1 h;grind
 have hbig:CI .f64 4841369599423283200 (p2 52):=by
  have:=BL (k:=.f64) (x:=4841369599423283200) (s:=false) (m:=4503599627370496) (e:=0) (by decide)
  rw[A5,show (4503599627370496:Nat)=2 ^ 52 from rfl,CR] at this
  exact this
 have hlow:CI .f64 14064741636278059008 (-p2 52):=by
  have:=BL (k:=.f64) (x:=14064741636278059008) (s:=true) (m:=4503599627370496) (e:=0) (by decide)
  rw[Cj,show (4503599627370496:Nat)=2 ^ 52 from rfl,CR] at this
  exact this
 have hone:1≤p2 52:=RC 52
 have c4:Ly .f64 (CY a) 4841369599423283200=false:=by
  rw[Bool.eq_false_iff];intro h;have:=(LO hw hbig).1 h;grind
 have c5:VQ .f64 (CY a) 14064741636278059008=false:=by
  rw[Bool.eq_false_iff];intro h;have:=(SR hw hlow).1 h;grind
 obtain ⟨w1,w2,w3⟩:=Jp hnan
 have hab:Qo (n+28) (CY a)=some (CY (a % 2147483648)):=by
  unfold Qo Pz
  simp only[w2,w3,w1]
  rfl
 have c6:Ly .f64 (CY (a % 2147483648)) 4841369599423283200=false:=by
  obtain ⟨s,m,e,e1,e2,-⟩:=ha
  have hv:=VA (BL (Ei.1 s m e e1))
  rw[A5] at hv
  have:mv m e * 4≤1:=by
   cases s
   ·rw[A5] at e2;grind
   ·rw[Cj] at e2;grind
  rw[Bool.eq_false_iff];intro h;have:=(LO hv hbig).1 h;grind
 have hsine:f171 (n+28) (CY a)=some (BW .f64 (CY a) 0):=by
  rw[f171,bJ]
  simp only[AJ,tz,AV,c1,Af]
 obtain ⟨C,k1,k2,k3⟩:=Yv
 have hm0:=Rat.mul_nonneg h0 k2
 have hm1:=Rat.mul_nonneg (show 0≤1 - R * 4 by grind) k2
 have hm2:(1 - R * 4) * C=C - R * C * 4:=by grind
 rw[hm2] at hm1
 obtain ⟨Z,z1,z2⟩:=FW hF k1 r2 t2 (by grind) (by grind)
 obtain ⟨z3,z4⟩:=FZ z2 r2 (by grind) (by grind)
 obtain ⟨m1,m2⟩:=M1 (A:=2) (B:=2) z3 z4 z3 z4 (by decide) (by decide)
 obtain ⟨U,u1,u2⟩:=FW z1 z1 r4 t4 (by grind) (by grind)
 obtain ⟨u3,u4⟩:=FZ u2 r4 (by grind) (by grind)
 obtain ⟨P,p1,p3,p4⟩:=W7 u1 u3 u4 (dK 8) _ _ cG J0 (by decide) (by decide)
 obtain ⟨n1,n2⟩:=M1 (A:=2) (B:=4) z3 z4 p3 p4 (by decide) (by decide)
 obtain ⟨Y,y1,y2⟩:=FW z1 p1 r8 t8 (by grind) (by grind)
 obtain ⟨y3,y4⟩:=FZ y2 r8 (by grind) (by grind)
 obtain ⟨y,hy⟩:=KG (k:=.f64) (k' :=.f32) (x:=AM .f64 (Qr a) (am (AM .f64 (Qr a) (Qr a)) (dK 8) 4607182418800017408)) (E:=((3:Nat):Int)) (by decide) (by decide) (by decide) (by
  intro s m e hd
  have hv:=(BL hd).inj y1
  rw[OW 3 8 (by rfl)]
  exact M6 (Ap _ _) (by rw[hv];exact y4) (by rw[hv];exact y3))
 have hM:aT a=y:=by unfold aT;rw[hy];rfl
 have l1:=UC (n+28) false (Qr a) (AM .f64 (Qr a) (Qr a)) (dK 8) 4620693217682128896 4607182418800017408 (n+28) Yw (by show 8<n+28;omega)
 have hz0:FloatKind.f64.nearest 0=0:=by decide
 have hne:TG .f64 (BW .f64 (CY a) (CY a)) 0=false:=by rw[Sw,hfin];rfl
 rw[hM]
 unfold Qr at l1 hy
 rw[f117,Cs]
 simp only[AJ]
 rw[f147,f149,f150,hfin,hab,hsine]
 simp only[AJ,Bool.not_true,Af,c6,c2,c3,l1,hy]
def Yk (x:Nat):Nat:=aT (fdiv .f32 (BW .f32 1065353216 x) 1082130432)
def Xd (x:Nat):Nat:=aT (fdiv .f32 x 1082130432)
theorem cx (n:Nat) {x:Nat} (h:Iw x=true):f96 (n+31) x=some (Yk x,Xd x,true):=by
 obtain ⟨v,v1,v2,v3⟩:=bK h
 obtain ⟨A,a1,a2,a3⟩:=Z4 v1 v2 v3
 obtain ⟨B,b1,b2,b3⟩:=We a1 a2 a3
 obtain ⟨C,c1,c2,c3⟩:=We v1 v2 v3
 have x1:=TR n b1 b2 b3
 have x2:=TR n c1 c2 c3
 have hp:=Zh (n+29) x
 rw[h] at hp
 have hp:f90 (n+30) x=some true:=hp
 rw[f96,hp]
 simp only[AJ,Bool.not_true,Af,x1,x2]
 rfl
def MT (g p:Nat) (xs:List Nat):Nat→Nat→List Nat→List Nat
 | 0,_,L=>L
 | j+1,i,L=>MT g p xs j (i+1) (L.set i (Au .f32 (L.getD i 0) (AM .f32 (AM .f32 (xs.getD i 0) g) p)))
theorem Jf (g p:Nat) (xs:List Nat):∀ (j i:Nat) (L:List Nat),(MT g p xs j i L).length=L.length
 | 0,_,_=>rfl
 | j+1,i,L=>by
   show (MT g p xs j (i+1) _).length=_
   rw[Jf g p xs j (i+1),length_set]
theorem OV (g p:Nat) (xs:List Nat):∀ (j i:Nat) (L:List Nat),(∀ x∈L,BX x)→∀ x∈MT g p xs j i L,BX x
 | 0,_,_,h=>h
 | j+1,i,L,h=>OV g p xs j (i+1) _ (by
   intro x hx
   rcases mem_or_eq_of_mem_set hx with h' | rfl
   ·exact h x h'
   ·exact BV _ _)
theorem WZ {k:FloatKind} {L:List Nat} {i:Nat} (h:i<L.length):Nat.ble (i+1) (AL k L).length=true:=by
 rw[Nat.ble_eq];simp[AL];omega
theorem ch {xs:List Nat} {i k:Nat} (h:i<k):(xs.take k).getD i 0=xs.getD i 0:=by
 simp[List.getD,List.getElem?_take,h]
theorem XK (n n1:Nat) (l2:List T) (N n8:Nat) (l9:List T) (g p q n13:Nat) (l14:List T) (i15 i16:Int) (xs:List Nat) (k:Nat) (hk:k≤xs.length) (hkN:k≤N) (hN:N≤1000):∀ (j i m:Nat) (L R:List Nat),i+j=k→L.length=N→R.length=N→j<m →
  f52.l1 n m n1 l2 (N:Int) N (AL .f32 L) N (AL .f32 R) n8 l9 g p q n13 l14 i15 i16 k (AL .f32 (xs.take k)) (k:Int) (i:Int)=some (n1,l2,(N:Int),N,AL .f32 (MT g p xs j i L),N,AL .f32 (MT g q xs j i R),n8,l9,n13,l14,i15,i16):=by
 intro j
 induction j with
 | zero =>
   intro i m L R hi hL hR hm
   obtain ⟨m,rfl⟩:=zc m (by omega)
   rw[f52.l1,A8 (by omega)];rfl
 | succ j ih =>
   intro i m L R hi hL hR hm
   obtain ⟨m,rfl⟩:=zc m (by omega)
   have hik:i<k:=by omega
   have ht:i<(xs.take k).length:=by rw[length_take];omega
   rw[f52.l1,Bf hik,A1 hik,A1 (show i<N by omega),zT,BH ht,BH (show i<L.length by omega),BH (show i<R.length by omega),WZ (show i<L.length by omega),WZ (show i<R.length by omega),AZ (show i<9223372036854775807 by omega)]
   simp only[AV,zA,Ay,Cy,ch hik,Ue]
   exact ih (i+1) m _ _ (by omega) (by rw[length_set];exact hL) (by rw[length_set];exact hR) (by omega)
def Iz (N:Nat) (s:List Nat × List Nat) (t:KE):List Nat × List Nat:=(MT (gT t.ten) (Yk t.pan) t.xs (min t.xs.length N) 0 s.1,MT (gT t.ten) (Xd t.pan) t.xs (min t.xs.length N) 0 s.2)
theorem EU {N:Nat} {s:List Nat × List Nat} {t:KE}:(Iz N s t).1.length=s.1.length∧(Iz N s t).2.length=s.2.length:=⟨Jf ..,Jf ..⟩
theorem JA (N:Nat):∀ (ts:List KE) (s:List Nat × List Nat),(∀ x∈s.1,BX x)→(∀ x∈s.2,BX x)→(ts.foldl (Iz N) s).1.length=s.1.length∧(ts.foldl (Iz N) s).2.length=s.2.length∧(∀ x∈(ts.foldl (Iz N) s).1,BX x)∧(∀ x∈(ts.foldl (Iz N) s).2,BX x)
 | [],s,h1,h2=>⟨rfl,rfl,h1,h2⟩
 | t::ts,s,h1,h2=>by
   obtain ⟨a,b,c,d⟩:=JA N ts (Iz N s t) (OV _ _ _ _ _ _ h1) (OV _ _ _ _ _ _ h2)
   exact ⟨a.trans EU.1,b.trans EU.2,c,d⟩
theorem UR (n n1:Nat) (l2:List T) (N:Nat) (hN:N≤1000) (a:Bool) (ts:List KE) (hl:ts.length≤100) (ht:∀ t∈ts,ZB t) (hn:1000<n):∀ (j i m:Nat) (s:List Nat × List Nat),i+j=ts.length→s.1.length=N→s.2.length=N→j<m →
  f52.l0 (n+40) m n1 l2 (N:Int) N (AL .f32 s.1) N (AL .f32 s.2) ts.length (GY (ts.map (hf a))) ts.length (Em ts) (ts.length:Int) (i:Int)=some (N,AL .f32 (((ts.drop i).filter (hf a)).foldl (Iz N) s).1,N,AL .f32 (((ts.drop i).filter (hf a)).foldl (Iz N) s).2):=by
 intro j
 induction j with
 | zero =>
   intro i m s hi h1 h2 hm
   obtain ⟨m,rfl⟩:=zc m (by omega)
   rw[f52.l0,A8 (by omega),drop_eq_nil_of_le (by omega)];rfl
 | succ j ih =>
   intro i m s hi h1 h2 hm
   obtain ⟨m,rfl⟩:=zc m (by omega)
   have h:i<ts.length:=by omega
   obtain ⟨t1,t2,t3⟩:=ht _ (cO h)
   have g1:f95 (n+40) (G5 ts i).ten=some (gT (G5 ts i).ten,true):=Zg (n+10) t2
   have g2:f96 (n+40) (G5 ts i).pan=some (Yk (G5 ts i).pan,Xd (G5 ts i).pan,true):=cx (n+9) t3
   rw[f52.l0,Bf h,A1 h,zT,nK h,H4 (show i<(ts.map (hf a)).length by simpa using h),Jo,Sq (α:=Unit) (hf a) h,Sp h,AZ (show i<9223372036854775807 by omega)]
   simp only[AV,zA,Ay]
   cases hb:hf a (G5 ts i)
   ·rw[filter_cons_of_neg (by rw[hb];decide)]
    simp only[Bool.not_false,AV]
    exact ih (i+1) m s (by omega) h1 h2 (by omega)
   ·rw[filter_cons_of_pos hb,foldl_cons]
    have hmin:(if (((G5 ts i).xs.length:Nat):Int)<(N:Int) then (((G5 ts i).xs.length:Nat):Int) else (N:Int))=((min (G5 ts i).xs.length N:Nat):Int):=by
     split <;>omega
    have hin:decide ((0:Int)≤0∧((0:Int)≤((min (G5 ts i).xs.length N:Nat):Int))∧(((min (G5 ts i).xs.length N:Nat):Int)≤(((G5 ts i).xs.length:Nat):Int)))=true:=decide_eq_true (by omega)
    have e:=XK (n+40) n1 l2 N ts.length (GY (ts.map (hf a))) (gT (G5 ts i).ten) (Yk (G5 ts i).pan) (Xd (G5 ts i).pan) ts.length (Em ts) (ts.length:Int) (i:Int) (G5 ts i).xs (min (G5 ts i).xs.length N) (Nat.min_le_left _ _) (Nat.min_le_right _ _) hN (min (G5 ts i).xs.length N) 0 (n+40) s.1 s.2 (by omega) h1 h2 (by omega)
    have e:f52.l1 (n+40) (n+40) n1 l2 (N:Int) N (AL .f32 s.1) N (AL .f32 s.2) ts.length (GY (ts.map (hf a))) (gT (G5 ts i).ten) (Yk (G5 ts i).pan) (Xd (G5 ts i).pan) ts.length (Em ts) (ts.length:Int) (i:Int) (min (G5 ts i).xs.length N) (AL .f32 ((G5 ts i).xs.take (min (G5 ts i).xs.length N))) ((min (G5 ts i).xs.length N:Nat):Int) 0=_:=e
    simp only[Bool.not_true,Af,nT h,lT h,iT h,fT h,g1,AJ,g2,MW (n+39),hmin,hin,Ay,zT,Nat.sub_zero,drop_zero,I3,e,AZ (show i<9223372036854775807 by omega)]
    exact ih (i+1) m (Iz N s (G5 ts i)) (by omega) (EU.1.trans h1) (EU.2.trans h2) (by omega)
def bE (N:Nat):List Nat × List Nat:=(List.replicate N 0,List.replicate N 0)
def Hl (N:Nat) (ts:List KE):List Nat × List Nat:=(ts.filter (hf (GH ts))).foldl (Iz N) (bE N)
theorem Tl (N:Nat) (ts:List KE):(Hl N ts).1.length=N∧(Hl N ts).2.length=N:=by
 have hw:∀ x∈List.replicate N 0,BX x:=FV N
 obtain ⟨a,b,-⟩:=JA N (ts.filter (hf (GH ts))) (bE N) hw hw
 exact ⟨a.trans (by simp[bE]),b.trans (by simp[bE])⟩
theorem cA (n N:Nat) (hN:N≤1000) (ts:List KE) (hl:ts.length≤100) (ht:∀ t∈ts,ZB t) (hn:1000<n) :
  f52 (n+42) ts.length (Em ts) (N:Int)=some (N,AL .f32 (Hl N ts).1,N,AL .f32 (Hl N ts).2):=by
 have e:=UR (n+1) ts.length (Em ts) N hN (GH ts) ts hl ht (by omega) ts.length 0 (n+41) (bE N) (by omega) (by simp[bE]) (by simp[bE]) (by omega)
 rw[drop_zero] at e
 have e:f52.l0 (n+41) (n+41) ts.length (Em ts) (N:Int) N (AL .f32 (List.replicate N 0)) N (AL .f32 (List.replicate N 0)) ts.length (GY (ts.map (hf (GH ts)))) ts.length (Em ts) (ts.length:Int) 0=some (N,AL .f32 (Hl N ts).1,N,AL .f32 (Hl N ts).2):=e
 have z:=ID (n+40) N (by omega)
 have z:f93 (n+41) (N:Int)=_:=z
 have hh:=Qa (n+37) ts hl (by omega)
 have hh:f94 (n+41) ts.length (Em ts)=_:=hh
 rw[f52]
 simp only[AJ,z,hh,length_map,e]
def QL (E:Nat→List Ef) (cl:List BM) (ss:List Aq) (k i:Nat):KE:=⟨C9 (E i) (i:Int) cl k,(Ai ss i).tn,(Ai ss i).pan,(Ai ss i).mute,(Ai ss i).solo⟩
def CB (E:Nat→List Ef) (cl:List BM) (ss:List Aq) (k i:Nat):List KE:=(List.range i).map (QL E cl ss k)
theorem GV (E:Nat→List Ef) (cl:List BM) (ss:List Aq) (k i:Nat):(CB E cl ss k i).length=i:=by simp[CB]
theorem VW (E:Nat→List Ef) (cl:List BM) (ss:List Aq) (k i:Nat):CB E cl ss k (i+1)=CB E cl ss k i++[QL E cl ss k i]:=by simp[CB,List.range_succ]
def KM (E:Nat→List Ef) (ss:List Aq):Prop:=∀ i,i<ss.length→CL (E i)=(Ai ss i).es∧(∀ e∈E i,e.Ok)∧(E i).length≤8
theorem Qp (n:Nat) (hn:1200<n) (cl:List BM) (ss:List Aq) (h:Yp cl ss) (E:Nat→List Ef) (hE:KM E ss) (k:Nat) (hk:k≤256) (hl:ss.length≤8):∀ (j i m:Nat),i+j=ss.length→j<m →
  f21.l0 (n+150) m (k:Int) cl.length (AH cl) ss.length (AG ss) (CB E cl ss k i).length (Em (CB E cl ss k i)) ss.length (AG ss) (ss.length:Int) (i:Int)=some ((k:Int),ss.length,Em (CB E cl ss k ss.length)):=by
 intro j
 induction j with
 | zero =>
   intro i m hi hm
   obtain ⟨m,rfl⟩:=zc m (by omega)
   obtain rfl:i=ss.length:=by omega
   rw[f21.l0,A8 (by omega),GV];rfl
 | succ j ih =>
   intro i m hi hm
   obtain ⟨m,rfl⟩:=zc m (by omega)
   have hs:i<ss.length:=by omega
   obtain ⟨e1,e2,e3⟩:=hE i hs
   have g:=RL (n+46) (by omega) h i k hs hk (E i) e1 e2 e3
   have g:f34 (n+150) cl.length (AH cl) ss.length (AG ss) (i:Int) (k:Int)=_:=g
   have f1:=(FQ e2 (i:Int) cl k).1
   have hp:=ZH (CB E cl ss k i) (QL E cl ss k i)
   have hpl:=A6 (p:=CB E cl ss k i) (z:=QL E cl ss k i)
   rw[← VW] at hp hpl
   have hrow:∀ (a b c d e:T),AF (AF (AF (AF (AF [(T.lst 0 []),(T.int .i64 (0:Int)),(T.flt .f32 0),(T.bool false),(T.bool false)] 0 [a]) 1 [b]) 2 [c]) 3 [d]) 4 [e]=[a,b,c,d,e]:=fun _ _ _ _ _=>rfl
   rw[f21.l0,Bf hs,A1 hs,zT,Rl hs]
   unfold Oc at hp
   unfold QL at hp
   rw[f1] at hp
   simp only[AV,zA,Ay,jv hs,jX hs,jb hs,ie hs,g,AJ,f1,An (show (CB E cl ss k i).length<2147483648 by rw[GV];omega),hrow]
   rw[hp,hpl,AZ (show i<9223372036854775807 by omega)]
   exact ih (i+1) m (by omega) (by omega)
theorem Z5 {cl:List BM} {ss:List Aq} (h:Yp cl ss) {E:Nat→List Ef} (hE:KM E ss) {k:Nat} (hk:k≤256):∀ t∈CB E cl ss k ss.length,ZB t:=by
 intro t ht
 unfold CB at ht
 obtain ⟨i,hi,rfl⟩:=mem_map.1 ht
 have hi:=mem_range.1 hi
 obtain ⟨e1,e2,e3⟩:=hE i hi
 have f1:=(FQ e2 (i:Int) cl k).1
 obtain ⟨-,s1,s2⟩:=h.s _ (E4 hi)
 exact ⟨by show (C9 (E i) (i:Int) cl k).length≤256;omega,s1,s2⟩
theorem PG {α:Type} {f:α→List T} {w:Nat} (hf:∀ x,(f x).length=w) (d:α):∀ (ts:List α) (i c:Nat) (v:T) (y:α),i<ts.length→c<w→f y=(f (ts.getD i d)).set c v→(ts.flatMap f).set (i * w+c) v=(ts.set i y).flatMap f
 | [],i,c,v,y,h,_,_=>by simp at h
 | t::ts,0,c,v,y,_,hc,hy=>by
   simp only[flatMap_cons,List.set_cons_zero,Nat.zero_mul,Nat.zero_add]
   rw[List.set_append_left _ _ (by rw[hf];exact hc),hy];rfl
 | t::ts,i+1,c,v,y,h,hc,hy=>by
   simp only[flatMap_cons,List.set_cons_succ]
   have e:(i+1) * w+c=w+(i * w+c):=by rw[Nat.add_mul];omega
   rw[List.set_append_right _ _ (by rw[hf,e];omega),hf,show (i+1) * w+c - w=i * w+c by omega,PG hf d ts i c v y (by simpa using h) hc (by simpa using hy)]
theorem LM (s:Aq):(Ul s).length=5:=rfl
theorem Ii (ts:List Aq):(AG ts).length=5 * ts.length:=by
 unfold AG
 induction ts with
 | nil=>rfl
 | cons t ts ih=>rw[flatMap_cons,length_append,ih,LM,length_cons];omega
def XQ:List BM→Nat
 | []=>0
 | e::es=>1+e.nums.length+XQ es
def Qi:List Aq→Nat
 | []=>0
 | s::ss=>1+XQ s.es+Qi ss
structure nk (cl:List BM) (ss:List Aq):Prop where
 c:XQ cl≤1048576
 s:Qi ss≤1048576
structure ng (cl:List BM) (ss:List Aq):Prop where
 c:cl.length≤9223372036854775807
 cn:∀ e∈cl,e.nums.length≤9223372036854775807
 s:ss.length≤9223372036854775807
 se:∀ s∈ss,s.es.length≤9223372036854775807∧∀ e∈s.es,e.nums.length≤9223372036854775807
section
variable {E:A4} {tE tI tF tFs tEs tSt tCs tSs tS tC tB o1 o2 o3 o4 o5:Nat} {dE dI dF dFs dEs dSt dCs dSs dS dC dB:TD}
end
theorem Mf (n:Nat) (N:Nat) (ts:List T) (cs:List BM) (hl:cs.length≤100) (hx:∀ e∈cs,e.nums.length≤1000):∀ (j i m:Nat) (P:List BM),i+j=cs.length→P.length≤i→j<m →
  f80.l0 (n+1) m N ts P.length (AH P) cs.length (AH cs) (cs.length:Int) (i:Int)=some ((P++cs.drop i).length,AH (P++cs.drop i)):=by
 intro j
 induction j with
 | zero =>
   intro i m P hi hP hm
   obtain ⟨m,rfl⟩:=zc m (by omega)
   rw[f80.l0,A8 (by omega),drop_eq_nil_of_le (by omega),append_nil];rfl
 | succ j ih =>
   intro i m P hi hP hm
   obtain ⟨m,rfl⟩:=zc m (by omega)
   have h:i<cs.length:=by omega
   have g:=JG n (Cg cs i).nums (by have:=hx _ (GN h);omega)
   have hp:=E6 P (Cg cs i)
   unfold EN at hp
   rw[f80.l0,Bf h,A1 h,zT,U5 h]
   simp only[AV,zA,Ay,kE h,gE h,nE h,lE h,g,AJ,An (show P.length<2147483648 by omega),hp]
   rw[A6 (z:=Cg cs i),AZ (show i<9223372036854775807 by omega),ih (i+1) m _ (by omega) (by simp;omega) (by omega),Dl h]
   simp
theorem VL (n:Nat) (hn:200<n) (cs:List BM) (hl:cs.length≤100) (hx:∀ e∈cs,e.nums.length≤1000):f80 (n+2) cs.length (AH cs)=some (cs.length,AH cs):=by
 have e:=Mf n cs.length (AH cs) cs hl hx cs.length 0 (n+1) [] (by omega) (by simp) (by omega)
 simp only[drop_zero,nil_append] at e
 have e:f80.l0 (n+1) (n+1) cs.length (AH cs) 0 [] cs.length (AH cs) (cs.length:Int) 0=_:=e
 rw[f80,e];rfl
theorem Wq (acc:List Aq) (s:Aq):AG acc++AF (reps 1 [(T.lst 0 []),(T.int .i64 (0:Int)),(T.flt .f32 0),(T.bool false),(T.bool false)]) 0 (Ul s)=AG (acc++[s]):=by
 unfold AG
 rw[flatMap_append,flatMap_singleton];rfl
theorem gu (n:Nat) (N1:Nat) (t1:List T) (N3:Nat) (t3:List T) (N5:Nat) (t5:List T) (N7:Nat) (t7:List T) (N11:Nat) (t11:List T) (cs:List BM) (hl:cs.length≤100) (hx:∀ e∈cs,e.nums.length≤1000):∀ (j i m:Nat) (P:List BM),i+j=cs.length→P.length≤i→j<m →
  f42.l0 (n+1) m N1 t1 N3 t3 N5 t5 N7 t7 P.length (AH P) N11 t11 cs.length (AH cs) (cs.length:Int) (i:Int)=some (N1,t1,N3,t3,N5,t5,N7,t7,(P++cs.drop i).length,AH (P++cs.drop i),N11,t11):=by
 intro j
 induction j with
 | zero =>
   intro i m P hi hP hm
   obtain ⟨m,rfl⟩:=zc m (by omega)
   rw[f42.l0,A8 (by omega),drop_eq_nil_of_le (by omega),append_nil];rfl
 | succ j ih =>
   intro i m P hi hP hm
   obtain ⟨m,rfl⟩:=zc m (by omega)
   have h:i<cs.length:=by omega
   have g:=JG n (Cg cs i).nums (by have:=hx _ (GN h);omega)
   have hp:=E6 P (Cg cs i)
   unfold EN at hp
   rw[f42.l0,Bf h,A1 h,zT,U5 h]
   simp only[AV,zA,Ay,kE h,gE h,nE h,lE h,g,AJ,An (show P.length<2147483648 by omega),hp]
   rw[A6 (z:=Cg cs i),AZ (show i<9223372036854775807 by omega),ih (i+1) m _ (by omega) (by simp;omega) (by omega),Dl h]
   simp
theorem ef (n:Nat) (hn:200<n) (N1:Nat) (t1:List T) (N3:Nat) (t3:List T) (N5:Nat) (t5:List T) (N7:Nat) (t7:List T) (N9:Nat) (t9:List T) (ss:List Aq) (hl:ss.length≤100) (hx:∀ s∈ss,s.es.length≤100∧∀ e∈s.es,e.nums.length≤1000):∀ (j i m:Nat) (P:List Aq),i+j=ss.length→P.length≤i→j<m →
  f42.l1 (n+2) m N1 t1 N3 t3 N5 t5 N7 t7 N9 t9 P.length (AG P) ss.length (AG ss) (ss.length:Int) (i:Int)=some (N5,t5,N7,t7,N9,t9,(P++ss.drop i).length,AG (P++ss.drop i)):=by
 intro j
 induction j with
 | zero =>
   intro i m P hi hP hm
   obtain ⟨m,rfl⟩:=zc m (by omega)
   rw[f42.l1,A8 (by omega),drop_eq_nil_of_le (by omega),append_nil];rfl
 | succ j ih =>
   intro i m P hi hP hm
   obtain ⟨m,rfl⟩:=zc m (by omega)
   have h:i<ss.length:=by omega
   have hs:=hx _ (E4 h)
   have g:=VL n hn (Ai ss i).es hs.1 hs.2
   have hp:=Wq P (Ai ss i)
   unfold Ul at hp
   rw[f42.l1,Bf h,A1 h,zT,Rl h]
   simp only[AV,zA,Ay,bM h,fS h,jv h,jX h,jb h,ie h,g,AJ,An (show P.length<2147483648 by omega),hp]
   rw[A6 (z:=Ai ss i),AZ (show i<9223372036854775807 by omega),ih (i+1) m _ (by omega) (by simp;omega) (by omega),OK h]
   simp
theorem dW (n:Nat) (hn:200<n) (cs:List BM) (ss:List Aq) (hl:cs.length≤100) (hx:∀ e∈cs,e.nums.length≤1000) (hl2:ss.length≤100) (hx2:∀ s∈ss,s.es.length≤100∧∀ e∈s.es,e.nums.length≤1000) :
  f42 (n+3) cs.length (AH cs) ss.length (AG ss)=some (cs.length,AH cs,ss.length,AG ss):=by
 have e0:=gu (n+1) cs.length (AH cs) ss.length (AG ss) 0 [] 0 [] 0 [] cs hl hx cs.length 0 (n+2) [] (by omega) (by simp) (by omega)
 have e0:f42.l0 (n+2) (n+2) cs.length (AH cs) ss.length (AG ss) 0 [] 0 [] 0 [] 0 [] cs.length (AH cs) (cs.length:Int) 0=_:=e0
 have e1:=ef n hn cs.length (AH cs) ss.length (AG ss) 0 [] 0 [] cs.length (AH cs) ss hl2 hx2 ss.length 0 (n+2) [] (by omega) (by simp) (by omega)
 have e1:f42.l1 (n+2) (n+2) cs.length (AH cs) ss.length (AG ss) 0 [] 0 [] cs.length (AH cs) 0 [] ss.length (AG ss) (ss.length:Int) 0=_:=e1
 simp only[drop_zero,nil_append] at e0 e1
 rw[f42,e0]
 simp only[AJ,e1]
theorem aM (n:Nat) (xs:List Nat) (h:xs.length≤2147483648):f78 (n+1) xs.length (AL .f32 xs)=some (xs.length,AL .f32 xs):=by
 rw[f78,Nat.zero_add,Dj h];rfl
theorem Wi (n:Nat) (e:BM) (h:e.nums.length≤2147483648):f41 (n+2) e.kind e.len e.nums.length (AL .f32 e.nums)=some (e.kind,e.len,e.nums.length,AL .f32 e.nums):=by
 rw[f41,aM n e.nums h];rfl
theorem Se (n:Nat) (cs:List BM) (hl:cs.length≤100) (hx:∀ e∈cs,e.nums.length≤1000):∀ (j i m:Nat) (P:List BM),i+j=cs.length→P.length≤i→j<m →
  f77.l0 (n+1) m cs.length (AH cs) P.length (AH P) (cs.length:Int) (i:Int)=some ((P++cs.drop i).length,AH (P++cs.drop i)):=by
 intro j
 induction j with
 | zero =>
   intro i m P hi hP hm
   obtain ⟨m,rfl⟩:=zc m (by omega)
   rw[f77.l0,A8 (by omega),drop_eq_nil_of_le (by omega),append_nil];rfl
 | succ j ih =>
   intro i m P hi hP hm
   obtain ⟨m,rfl⟩:=zc m (by omega)
   have h:i<cs.length:=by omega
   have g:=aM n (Cg cs i).nums (by have:=hx _ (GN h);omega)
   have hp:=E6 P (Cg cs i)
   unfold EN at hp
   rw[f77.l0,Bf h,A1 h,zT,U5 h]
   simp only[AV,zA,Ay,kE h,gE h,nE h,lE h,g,AJ,An (show P.length<2147483648 by omega),hp]
   rw[A6 (z:=Cg cs i),AZ (show i<9223372036854775807 by omega),ih (i+1) m _ (by omega) (by simp;omega) (by omega),Dl h]
   simp
theorem bz (n:Nat) (hn:200<n) (cs:List BM) (hl:cs.length≤100) (hx:∀ e∈cs,e.nums.length≤1000):f77 (n+2) cs.length (AH cs)=some (cs.length,AH cs):=by
 have e:=Se n cs hl hx cs.length 0 (n+1) [] (by omega) (by simp) (by omega)
 simp only[drop_zero,nil_append] at e
 have e:f77.l0 (n+1) (n+1) cs.length (AH cs) 0 (reps 0 [(T.int .i64 (0:Int)),(T.int .i64 (0:Int)),(T.lst 0 [])]) (cs.length:Int) 0=_:=e
 rw[f77,e];rfl
theorem gF (n:Nat) (N3:Nat) (t3:List T) (N5:Nat) (t5:List T) (N7:Nat) (t7:List T) (N11:Nat) (t11:List T) (cs:List BM) (hl:cs.length≤100) (hx:∀ e∈cs,e.nums.length≤1000):∀ (j i m:Nat) (P:List BM),i+j=cs.length→P.length≤i→j<m →
  f40.l0 (n+2) m cs.length (AH cs) N3 t3 N5 t5 N7 t7 P.length (AH P) N11 t11 (cs.length:Int) (i:Int)=some (cs.length,AH cs,N3,t3,N5,t5,N7,t7,(P++cs.drop i).length,AH (P++cs.drop i),N11,t11):=by
 intro j
 induction j with
 | zero =>
   intro i m P hi hP hm
   obtain ⟨m,rfl⟩:=zc m (by omega)
   rw[f40.l0,A8 (by omega),drop_eq_nil_of_le (by omega),append_nil];rfl
 | succ j ih =>
   intro i m P hi hP hm
   obtain ⟨m,rfl⟩:=zc m (by omega)
   have h:i<cs.length:=by omega
   have g:=Wi n (Cg cs i) (by have:=hx _ (GN h);omega)
   have hp:=E6 P (Cg cs i)
   unfold EN at hp
   rw[f40.l0,Bf h,A1 h,zT,U5 h]
   simp only[AV,zA,Ay,kE h,gE h,nE h,lE h,g,AJ,An (show P.length<2147483648 by omega),hp]
   rw[A6 (z:=Cg cs i),AZ (show i<9223372036854775807 by omega),ih (i+1) m _ (by omega) (by simp;omega) (by omega),Dl h]
   simp
theorem fH (n:Nat) (hn:200<n) (N1:Nat) (t1:List T) (N5:Nat) (t5:List T) (N7:Nat) (t7:List T) (N9:Nat) (t9:List T) (ss:List Aq) (hl:ss.length≤100) (hx:∀ s∈ss,s.es.length≤100∧∀ e∈s.es,e.nums.length≤1000):∀ (j i m:Nat) (P:List Aq),i+j=ss.length→P.length≤i→j<m →
  f40.l1 (n+2) m N1 t1 ss.length (AG ss) N5 t5 N7 t7 N9 t9 P.length (AG P) (ss.length:Int) (i:Int)=some (N5,t5,N7,t7,N9,t9,(P++ss.drop i).length,AG (P++ss.drop i)):=by
 intro j
 induction j with
 | zero =>
   intro i m P hi hP hm
   obtain ⟨m,rfl⟩:=zc m (by omega)
   rw[f40.l1,A8 (by omega),drop_eq_nil_of_le (by omega),append_nil];rfl
 | succ j ih =>
   intro i m P hi hP hm
   obtain ⟨m,rfl⟩:=zc m (by omega)
   have h:i<ss.length:=by omega
   have hs:=hx _ (E4 h)
   have g:=bz n hn (Ai ss i).es hs.1 hs.2
   have hp:=Wq P (Ai ss i)
   unfold Ul at hp
   rw[f40.l1,Bf h,A1 h,zT,Rl h]
   simp only[AV,zA,Ay,bM h,fS h,jv h,jX h,jb h,ie h,g,AJ,An (show P.length<2147483648 by omega),hp]
   rw[A6 (z:=Ai ss i),AZ (show i<9223372036854775807 by omega),ih (i+1) m _ (by omega) (by simp;omega) (by omega),OK h]
   simp
theorem f7 (n:Nat) (hn:200<n) (cs:List BM) (ss:List Aq) (hl:cs.length≤100) (hx:∀ e∈cs,e.nums.length≤1000) (hl2:ss.length≤100) (hx2:∀ s∈ss,s.es.length≤100∧∀ e∈s.es,e.nums.length≤1000) :
  f40 (n+3) cs.length (AH cs) ss.length (AG ss)=some (cs.length,AH cs,ss.length,AG ss):=by
 have e0:=gF n ss.length (AG ss) 0 [] 0 [] 0 [] cs hl hx cs.length 0 (n+2) [] (by omega) (by simp) (by omega)
 have e0:f40.l0 (n+2) (n+2) cs.length (AH cs) ss.length (AG ss) 0 [] 0 [] 0 (reps 0 [(T.int .i64 (0:Int)),(T.int .i64 (0:Int)),(T.lst 0 [])]) 0 (reps 0 [(T.lst 0 []),(T.int .i64 (0:Int)),(T.flt .f32 0),(T.bool false),(T.bool false)]) (cs.length:Int) 0=_:=e0
 have e1:=fH n hn cs.length (AH cs) 0 [] 0 [] cs.length (AH cs) ss hl2 hx2 ss.length 0 (n+2) [] (by omega) (by simp) (by omega)
 have e1:f40.l1 (n+2) (n+2) cs.length (AH cs) ss.length (AG ss) 0 [] 0 [] cs.length (AH cs) 0 [] (ss.length:Int) 0=_:=e1
 simp only[drop_zero,nil_append] at e0 e1
 rw[f40,e0]
 simp only[AJ,e1]
theorem V2 (n:Nat) (hn:200<n) (C:List BM) (S:List Aq):f45 (n+7) C.length (AH C) S.length (AG S)=some (if DU C S=true then .inr (C.length,AH C,S.length,AG S,true,C.length,AH C,S.length,AG S) else .inl (0,[],0,[],false,C.length,AH C,S.length,AG S)):=by
 rw[f45,J9 n C S (by omega),AJ]
 cases DU C S <;>rfl
def KZ (s:Aq):KE:=⟨[],s.tn,s.pan,s.mute,s.solo⟩
def CZ (ss:List Aq):List Bool:=(ss.map KZ).map (hf (GH (ss.map KZ)))
theorem DW (ss:List Aq):(CZ ss).length=ss.length:=by simp[CZ]
theorem QM (n:Nat) (n1:Nat) (l2:List T) (n3:Nat) (l4:List T) (ss:List Aq) (hl:ss.length≤100):∀ (j i m:Nat) (P Q:List Bool),i+j=ss.length→P.length≤i→Q.length≤i→j<m →
  f53.l0 n m n1 l2 n3 l4 P.length (GY P) Q.length (GY Q) ss.length (AG ss) (ss.length:Int) (i:Int)=some ((P++(ss.drop i).map (·.mute)).length,GY (P++(ss.drop i).map (·.mute)),(Q++(ss.drop i).map (·.solo)).length,GY (Q++(ss.drop i).map (·.solo))):=by
 intro j
 induction j with
 | zero =>
   intro i m P Q hi hP hQ hm
   obtain ⟨m,rfl⟩:=zc m (by omega)
   rw[f53.l0,A8 (by omega),drop_eq_nil_of_le (by omega)]
   simp[br]
 | succ j ih =>
   intro i m P Q hi hP hQ hm
   obtain ⟨m,rfl⟩:=zc m (by omega)
   have h:i<ss.length:=by omega
   rw[f53.l0,Bf h,A1 h,zT,Rl h]
   simp only[AV,zA,Ay,jb h,ie h,An (show P.length<2147483648 by omega),An (show Q.length<2147483648 by omega),Pt,AZ (show i<9223372036854775807 by omega)]
   rw[A6 (z:=(Ai ss i).mute),A6 (p:=Q) (z:=(Ai ss i).solo),ih (i+1) m _ _ (by omega) (by simp;omega) (by simp;omega) (by omega),OK h]
   simp
theorem U8 (n:Nat) (N:Nat) (cs:List T) (ss:List Aq) (hl:ss.length≤100) (hn:300<n):f53 (n+4) N cs ss.length (AG ss)=some (ss.length,GY (CZ ss)):=by
 have e:=QM (n+3) N cs ss.length (AG ss) ss hl ss.length 0 (n+3) [] [] (by omega) (by simp) (by simp) (by omega)
 simp only[drop_zero,nil_append] at e
 have m1:ss.map (·.mute)=(ss.map KZ).map (·.mute):=by rw[map_map];rfl
 have m2:ss.map (·.solo)=(ss.map KZ).map (·.solo):=by rw[map_map];rfl
 rw[m1,m2] at e
 have e:f53.l0 (n+3) (n+3) N cs ss.length (AG ss) 0 [] 0 [] ss.length (AG ss) (ss.length:Int) 0=_:=e
 rw[f53,e]
 have htl:(ss.map KZ).length=ss.length:=by simp
 obtain ⟨ts,hts⟩:∃ ts,ts=ss.map KZ:=⟨_,rfl⟩
 unfold CZ
 rw[← hts] at htl ⊢
 have e2:=KL n (ts.map (·.solo)) (by rw[length_map];omega) (by omega)
 have ha:(ts.map (·.solo)).any id=GH ts:=by unfold GH;rw[any_map];rfl
 rw[ha,length_map] at e2
 have e3:=Pr (n+2) ts.length (GH ts) ts (by omega) ts.length 0 (n+2) [] (by omega) (by simp) (by omega)
 simp only[drop_zero,nil_append] at e3
 have e3:f97.l0 (n+2) (n+2) ts.length (GY (ts.map (·.mute))) ts.length (GY (ts.map (·.solo))) (GH ts) 0 [] ts.length (GY (ts.map (·.mute))) (ts.length:Int) 0=_:=e3
 rw[htl] at e2 e3
 simp only[AJ,length_map]
 rw[f97]
 simp only[e2,AJ,e3,length_map,htl]
def NS (e:BM):Bool:=e.kind==0&&Nz .f32 (e.nums.getD 0 0) 1065353216
def Dd (es:List BM):List BM:=es.filter fun e => !NS e
theorem Re {es:List BM} {e:BM} (h:e∈Dd es):e∈es:=(mem_filter.1 h).1
theorem MD (es:List BM):(Dd es).length≤es.length:=List.length_filter_le _ _
theorem Xi {e:BM} (h:IV e=true) (hk:e.kind=0):e.nums.length=1:=by
 unfold IV at h
 rw[if_pos (.inl hk),decide_eq_true_iff] at h
 exact h.2
theorem W1:∀ es:List BM,(∀ e∈es,IV e=true)→Dq 3 (GB []) es.length (AH es)=some ((Dd es).length,AH (Dd es))
 | [],_=>rfl
 | e::es,h=>by
   have ih:=W1 es fun x hx=>h x (by simp[hx])
   have h1:(EN e++AH es).take 3=EN e:=rfl
   have h2:(EN e++AH es).drop 3=AH es:=rfl
   have h3:GB [] (EN e)=some (NS e):=by
    have he:=Xi (h e (by simp))
    unfold GB EN NS
    simp only
    cases hk:e.kind==0
    ·rfl
    ·have hl:=he (by simpa using hk)
     cases hn:e.nums with
     | nil=>rw[hn] at hl;simp at hl
     | cons x xs=>simp[AL,Nz]
   show Dq 3 _ (es.length+1) (EN e++AH es)=_
   simp only[Dq,h1,h2,h3,ih]
   cases hu:NS e
   ·have:Dd (e::es)=e::Dd es:=filter_cons_of_pos (by simp[hu])
    rw[this];rfl
   ·have:Dd (e::es)=Dd es:=filter_cons_of_neg (by simp[hu])
    rw[this]
def Bk (k:Int):List BM→Int→Int→Int × Int
 | [],f,t=>(f,t)
 | c::cs,f,t=>if c.kind=k then Bk k cs (if f<0∨c.len<f then c.len else f) (if t<c.len+(c.nums.length:Int) then c.len+(c.nums.length:Int) else t) else Bk k cs f t
def Vr (f t:Int):Prop:=(f = -1∧t=0)∨(0≤f∧f≤256∧f≤t∧t≤1000)
theorem MR (k:Int):∀ (cs:List BM) (f t:Int),(∀ c∈cs,(0≤c.len∧c.len≤256)∧c.nums.length≤256)→Vr f t→Vr (Bk k cs f t).1 (Bk k cs f t).2
 | [],f,t,_,h=>h
 | c::cs,f,t,hc,h=>by
   obtain ⟨⟨h1,h2⟩,h3⟩:=hc c (by simp)
   unfold Bk
   by_cases hk:c.kind=k
   ·rw[if_pos hk]
    refine MR k cs _ _ (fun x hx=>hc x (by simp[hx])) ?_
    unfold Vr at h ⊢
    right
    rcases h with ⟨rfl,rfl⟩ | ⟨a,b,d,e⟩
    ·rw[if_pos (.inl (by decide))]
     split <;>omega
    ·by_cases hf:f<0∨c.len<f
     ·rw[if_pos hf];split <;>omega
     ·rw[if_neg hf];split <;>omega
   ·rw[if_neg hk]
    exact MR k cs f t (fun x hx=>hc x (by simp[hx])) h
theorem WD (p:Int) (x:Nat) (out:List Nat) (f:Nat) (hf:f≤out.length):(Dc p x out).drop f=Dc (p - (f:Int)) x (out.drop f):=by
 unfold Dc
 by_cases h:0≤p∧p<(out.length:Int)
 ·rw[if_pos h]
  by_cases h2:(f:Int)≤p
  ·rw[if_pos (by rw[length_drop];omega),List.drop_set,if_neg (by omega)]
   have e:(p - (f:Int)).toNat=p.toNat - f:=by omega
   rw[e]
   congr 2
   simp only[List.getD,List.getElem?_drop]
   rw[show f+(p.toNat - f)=p.toNat by omega]
  ·rw[if_neg (by omega),List.drop_set,if_pos (by omega)]
 ·rw[if_neg h,if_neg (by rw[length_drop];omega)]
theorem Lx (f:Nat):∀ (xs:List Nat) (p:Int) (out:List Nat),f≤out.length→(CQ p xs out).drop f=CQ (p - (f:Int)) xs (out.drop f)
 | [],_,_,_=>rfl
 | x::xs,p,out,hf=>by
   rw[CQ,CQ,Lx f xs _ _ (by rw[DK];exact hf),WD _ _ _ _ hf]
   congr 1
   omega
theorem LY (track:Int) (f:Nat):∀ (cs:List BM) (out:List Nat),f≤out.length→(AP track 0 cs out).drop f=AP track (f:Int) cs (out.drop f)
 | [],_,_=>rfl
 | c::cs,out,hf=>by
   rw[AP,AP,LY track f cs _ (by split <;>simp[A9,hf])]
   congr 1
   split
   ·rw[Lx f _ _ _ hf]
    congr 1
    omega
   ·rfl
def dQ (s:Aq) (es:List BM):Aq:=⟨es,s.tn,s.pan,s.mute,s.solo⟩
theorem dV {ss:List Aq} {i:Nat} (h:i<ss.length) (es:List BM):AF (AG ss) (i * 5+0) [T.lst es.length (AH es)]=AG (ss.set i (dQ (Ai ss i) es)):=by
 rw[Fm]
 exact PG LM ⟨[],0,0,false,false⟩ ss i 0 (T.lst es.length (AH es)) (dQ (Ai ss i) es) h (by decide) rfl
theorem eC (cs:List T) (p:Nat) (t u:T):AF (AF cs p [t]) p [u]=AF cs p [u]:=by
 rw[Fm,Fm,Fm,List.set_set]
def Ff (H:List Bool) (cl:List BM) (k:Nat):List BM :=
 if H.getD k false then (if (Bk (k:Int) cl (-1) 0).1<0 then [] else
  [⟨(k:Int),(Bk (k:Int) cl (-1) 0).1,AP (k:Int) (Bk (k:Int) cl (-1) 0).1 cl (List.replicate (min 256 ((Bk (k:Int) cl (-1) 0).2 - (Bk (k:Int) cl (-1) 0).1)).toNat 0)⟩]) else []
def HA (H:List Bool) (k:Nat) (s:Aq):Aq:=dQ s (if H.getD k false then Dd s.es else [])
def D4 (H:List Bool) (cl:List BM):Nat→Nat→List Aq→List BM→List Aq × List BM
 | 0,_,S,P=>(S,P)
 | j+1,i,S,P=>D4 H cl j (i+1) (S.set i (HA H i (Ai S i))) (P++Ff H cl i)
theorem eK (n:Nat) (c:BM) (h:(0≤c.len∧c.len≤256)∧c.nums.length≤256):f56 (n+2) c.kind c.len c.nums.length (AL .f32 c.nums)=some (c.len+(c.nums.length:Int)):=by
 rw[f56,MW]
 simp only[AJ]
 congr 1
 rw[BD] <;>omega
theorem Ma (k:Int) (c:BM) (cs:List BM) (f t:Int):Bk k (c::cs) f t=if c.kind=k then Bk k cs (if f<0∨c.len<f then c.len else f) (if t<c.len+(c.nums.length:Int) then c.len+(c.nums.length:Int) else t) else Bk k cs f t:=rfl
def VE (cl:List BM):Prop:=∀ c∈cl,(0≤c.len∧c.len≤256)∧c.nums.length≤256
theorem fE (n:Nat) (cl:List BM) (hl:cl.length≤100) (hcl:VE cl) (n1:Nat) (l2:List T) (n3:Nat) (l4:List T) (n5:Nat) (l6:List T) (n7:Nat) (l8:List T) (n9:Nat) (l10:List T) (n11:Nat) (l12:List T) (k:Nat) (n16:Nat) (l17:List T) (i18 i19:Int):∀ (j i m:Nat) (f t:Int),i+j=cl.length→j<m →
  f22.l1 (n+2) m n1 l2 n3 l4 n5 l6 n7 l8 n9 l10 n11 l12 (k:Int) f t n16 l17 i18 i19 cl.length (AH cl) (cl.length:Int) (i:Int) =
   some (n1,l2,n3,l4,n5,l6,n7,l8,n9,l10,n11,l12,(k:Int),(Bk (k:Int) (cl.drop i) f t).1,(Bk (k:Int) (cl.drop i) f t).2,n16,l17,i18,i19):=by
 intro j
 induction j with
 | zero =>
   intro i m f t hi hm
   obtain ⟨m,rfl⟩:=zc m (by omega)
   rw[f22.l1,A8 (by omega),drop_eq_nil_of_le (by omega)];rfl
 | succ j ih =>
   intro i m f t hi hm
   obtain ⟨m,rfl⟩:=zc m (by omega)
   have h:i<cl.length:=by omega
   have e:=eK n (Cg cl i) (hcl _ (GN h))
   rw[f22.l1,Bf h,A1 h,zT,U5 h,kE h,gE h,nE h,lE h,Dl h]
   simp only[AV,zA,Ay,e,AJ,gt_iff_lt,AZ (show i<9223372036854775807 by omega),ih _ _ _ _ (show i+1+j=cl.length by omega) (show j<m by omega)]
   rw[Ma]
   by_cases hk:(Cg cl i).kind=(k:Int)
   ·rw[show ((Cg cl i).kind != (k:Int))=false by simp[hk],Af,if_pos hk]
    by_cases h1:f<0
    ·rw[decide_eq_true h1,AV,if_pos (show f<0∨(Cg cl i).len<f from .inl h1)]
    ·rw[decide_eq_false h1,Af]
     by_cases h2:(Cg cl i).len<f
     ·rw[decide_eq_true h2,AV,if_pos (show f<0∨(Cg cl i).len<f from .inr h2)]
     ·rw[decide_eq_false h2,Af,if_neg (show ¬ (f<0∨(Cg cl i).len<f) by omega)]
   ·rw[show ((Cg cl i).kind != (k:Int))=true by simp[hk],AV,if_neg hk]
def kn (es:List BM) (i:Nat) (l:List T):Prop:=∀ j c,i≤j→j<es.length→c<3→l[j * 3+c]?=(EN (Cg es j))[c]?
theorem kn.next {es:List BM} {i:Nat} {l:List T} (h:kn es i l):kn es (i+1) l:=fun j c hi=>h j c (by omega)
section
variable {es:List BM} {i:Nat} {l:List T} (h:kn es i l) (hi:i<es.length)
include h hi
end
theorem dN {ts:List Aq} {i:Nat} (h:i<ts.length):AI [.lst] (AG ts) (i * 5+0)=true:=by
 have h0:=FS (c:=0) (by decide) ts i h
 simp only[Ul,List.getElem?_cons_zero] at h0
 rw[Nat.add_zero] at h0
 simp[AI,h0,MY]
theorem VH {ts:List Aq} {i:Nat} (h:i<ts.length) (y:Aq):Ai (ts.set i y) i=y:=by simp[Ai,List.getD,h]
def Zk (S:List Aq):Prop:=∀ s∈S,s.es.length≤100∧∀ e∈s.es,IV e=true
theorem Zk.set {S:List Aq} (h:Zk S) (H:List Bool) {i:Nat} (hi:i<S.length):Zk (S.set i (HA H i (Ai S i))):=by
 intro s hs
 rcases mem_or_eq_of_mem_set hs with hs | rfl
 ·exact h s hs
 ·obtain ⟨h1,h2⟩:=h _ (E4 hi)
  show (if H.getD i false then Dd (Ai S i).es else []).length≤100∧∀ e∈(if H.getD i false then Dd (Ai S i).es else []),IV e=true
  split
  ·exact ⟨Nat.le_trans (MD _) h1,fun e he=>h2 e (Re he)⟩
  ·exact ⟨by simp,fun e he=>by simp at he⟩
theorem Vp (n:Nat) (hn:1100<n) (cl:List BM) (hl:cl.length≤100) (hcl:VE cl) (n3:Nat) (l4:List T) (n5:Nat) (l6:List T) (n7:Nat) (l8:List T) (H:List Bool):∀ (j i m:Nat) (S:List Aq) (P:List BM),S.length=H.length→Zk S→H.length≤100→P.length≤i→i+j=H.length→j<m →
  f22.l0 (n+2) m cl.length (AH cl) n3 l4 n5 l6 n7 l8 P.length (AH P) S.length (AG S) H.length (GY H) (H.length:Int) (i:Int) =
   some (n5,l6,n7,l8,(D4 H cl j i S P).2.length,AH (D4 H cl j i S P).2,(D4 H cl j i S P).1.length,AG (D4 H cl j i S P).1):=by
 intro j
 induction j with
 | zero =>
   intro i m S P _ _ _ _ hi hm
   obtain ⟨m,rfl⟩:=zc m (by omega)
   rw[f22.l0,A8 (by omega)];rfl
 | succ j ih =>
   intro i m S P hS hok hH100 hP hi hm
   obtain ⟨m,rfl⟩:=zc m (by omega)
   have h:i<S.length:=by omega
   have hh:i<H.length:=by omega
   have hb:Nat.ble (i * 5+0+1) (AF (AG S) (i * 5+0) [T.nil]).length=true:=by
    rw[Fm,length_set,Ii];apply Dj;omega
   have hb2:Nat.ble (i * 5+0+1) (AG S).length=true:=by
    rw[Ii];apply Dj;omega
   have he:=dV h []
   have he:AF (AG S) (i * 5+0) [T.lst 0 []]=AG (S.set i (dQ (Ai S i) [])):=he
   have he2:=dV h (Dd (Ai S i).es)
   obtain ⟨g1,g2⟩:=hok _ (E4 h)
   have hS' :=hok.set H h
   have step:=fun (P':List BM) (hP':P'.length≤i+1)=>ih (i+1) m (S.set i (HA H i (Ai S i))) P' (by rw[length_set];exact hS) hS' hH100 hP' (by omega) (by omega)
   rw[length_set] at step
   have hdel:Gq 3 (n+2) (Ai S i).es.length (AH (Ai S i).es)=some ((Dd (Ai S i).es).length,AH (Dd (Ai S i).es),(Ai S i).es.length,AH (Ai S i).es):=by
    show HO 3 (GB []) (Ai S i).es.length (AH (Ai S i).es)=_
    unfold HO
    rw[if_pos (by omega),W1 _ g2]
   rw[f22.l0,Bf hh,A1 hh,A1 h]
   simp only[AV,zT,H4 hh,Jo,dN h,Ay,Bool.and_true,bM h,fS h,hb,hb2,eC,he,hdel,AJ,he2,AZ (show i<9223372036854775807 by omega)]
   show _=some (n5,l6,n7,l8,(D4 H cl j (i+1) (S.set i (HA H i (Ai S i))) (P++Ff H cl i)).2.length,AH (D4 H cl j (i+1) (S.set i (HA H i (Ai S i))) (P++Ff H cl i)).2,(D4 H cl j (i+1) (S.set i (HA H i (Ai S i))) (P++Ff H cl i)).1.length,AG (D4 H cl j (i+1) (S.set i (HA H i (Ai S i))) (P++Ff H cl i)).1)
   cases hx:H.getD i false
   ·have hc:Ff H cl i=[]:=by unfold Ff;rw[hx];rfl
    have hs:HA H i (Ai S i)=dQ (Ai S i) []:=by unfold HA;rw[hx];rfl
    rw[hc,append_nil]
    rw[hs] at step ⊢
    simp only[Bool.not_false,AV]
    exact step P (by omega)
   ·have hs:HA H i (Ai S i)=dQ (Ai S i) (Dd (Ai S i).es):=by unfold HA;rw[hx];rfl
    rw[hs] at step ⊢
    have k2:=fE n cl hl hcl cl.length (AH cl) n3 l4 n5 l6 n7 l8 P.length (AH P) S.length (AG (S.set i (dQ (Ai S i) (Dd (Ai S i).es)))) i H.length (GY H) (H.length:Int) (i:Int) cl.length 0 (n+2) (-1) 0 (by omega) (by omega)
    rw[drop_zero] at k2
    have k2:f22.l1 (n+2) (n+2) cl.length (AH cl) n3 l4 n5 l6 n7 l8 P.length (AH P) S.length (AG (S.set i (dQ (Ai S i) (Dd (Ai S i).es)))) (i:Int) (-1) 0 H.length (GY H) (H.length:Int) (i:Int) cl.length (AH cl) (cl.length:Int) 0=_:=k2
    simp only[Bool.not_true,Af,k2,AJ,AZ (show i<9223372036854775807 by omega)]
    have hsp:=MR (i:Int) cl (-1) 0 hcl (.inl ⟨rfl,rfl⟩)
    unfold Ff
    rw[hx,if_pos rfl]
    obtain ⟨f,hf⟩:∃ f,f=(Bk (i:Int) cl (-1) 0).1:=⟨_,rfl⟩
    obtain ⟨t,ht⟩:∃ t,t=(Bk (i:Int) cl (-1) 0).2:=⟨_,rfl⟩
    rw[← hf,← ht] at hsp ⊢
    rcases hsp with ⟨rfl,rfl⟩ | ⟨a1,a2,a3,a4⟩
    ·rw[show decide ((-1:Int)≥0)=false from rfl,Af,if_pos (by decide),append_nil]
     exact step P (by omega)
    ·obtain ⟨f,rfl⟩:=Int.eq_ofNat_of_zero_le a1
     obtain ⟨t,rfl⟩:=Int.eq_ofNat_of_zero_le (show 0≤t by omega)
     rw[decide_eq_true (show (f:Int)≥0 by omega),AV,if_neg (show ¬ (f:Int)<0 by omega)]
     have w1:IntKind.i64.wrap ((t:Int) - (f:Int))=(t:Int) - (f:Int):=by rw[BD] <;>omega
     obtain ⟨L,hL⟩:∃ L,L=(min 256 ((t:Int) - (f:Int))).toNat:=⟨_,rfl⟩
     have hL2:(if (t:Int) - (f:Int)<256 then (t:Int) - (f:Int) else 256)=(L:Int):=by
      by_cases hq:(t:Int) - (f:Int)<256
      ·rw[if_pos hq];omega
      ·rw[if_neg hq];omega
     have hL3:L≤256:=by omega
     have e3:=RS n cl n3 l4 (i:Int) (f:Int) L (by omega) (by omega) hl hcl (by omega)
     have hlx:(AP (i:Int) (f:Int) cl (List.replicate L 0)).length=L:=by rw[BO,length_replicate]
     have hp:=E6 P ⟨(i:Int),(f:Int),AP (i:Int) (f:Int) cl (List.replicate L 0)⟩
     unfold EN at hp
     simp only[hlx] at hp
     have hp:AH P++AF (reps 1 [(T.int .i64 (0:Int)),(T.int .i64 (0:Int)),(T.lst 0 [])]) 0 (AF (AF (AF [(T.int .i64 (0:Int)),(T.int .i64 (0:Int)),(T.lst 0 [])] 0 [(T.int .i64 (i:Int))]) 1 [(T.int .i64 (f:Int))]) 2 [(T.lst L (AL .f32 (AP (i:Int) (f:Int) cl (List.replicate L 0))))])=_:=hp
     rw[w1,hL2,← hL]
     simp only[e3,AJ,An (show P.length<2147483648 by omega),Ay,hp]
     rw[A6 (z:=(⟨(i:Int),(f:Int),AP (i:Int) (f:Int) cl (List.replicate L 0)⟩:BM))]
     exact step (P++[⟨(i:Int),(f:Int),AP (i:Int) (f:Int) cl (List.replicate L 0)⟩]) (by rw[length_append,length_singleton];omega)
def CX (cl:List BM) (ss:List Aq):List Aq:=(D4 (CZ ss) cl ss.length 0 ss []).1
def Bx (cl:List BM) (ss:List Aq):List BM:=(D4 (CZ ss) cl ss.length 0 ss []).2
theorem NW {H:List Bool} {cl:List BM} {k:Nat} (hcl:VE cl):(Ff H cl k).length≤1∧∀ c∈Ff H cl k,c.kind=(k:Int)∧(0≤c.len∧c.len≤256)∧c.nums.length≤256:=by
 have hsp:=MR (k:Int) cl (-1) 0 hcl (.inl ⟨rfl,rfl⟩)
 unfold Ff
 split
 ·split
  ·exact ⟨by simp,fun c hc=>by simp at hc⟩
  ·rename_i hf
   refine ⟨by simp,fun c hc => ?_⟩
   rw[mem_singleton] at hc
   subst hc
   refine ⟨rfl,?_,?_⟩
   ·show 0≤(Bk (k:Int) cl (-1) 0).1∧(Bk (k:Int) cl (-1) 0).1≤256
    rcases hsp with ⟨h,-⟩ | h <;>omega
   ·show (AP (k:Int) (Bk (k:Int) cl (-1) 0).1 cl (List.replicate (min 256 ((Bk (k:Int) cl (-1) 0).2 - (Bk (k:Int) cl (-1) 0).1)).toNat 0)).length≤256
    rw[BO,length_replicate]
    omega
 ·exact ⟨by simp,fun c hc=>by simp at hc⟩
theorem U0:∀ (es:List BM),XQ (Dd es)≤XQ es
 | []=>Nat.le_refl _
 | e::es=>by
   have ih:=U0 es
   unfold Dd at ih ⊢
   rw[List.filter_cons]
   split
   ·simp only[XQ];omega
   ·simp only[XQ];omega
theorem Q2:∀ (ss:List Aq) (i:Nat) (y:Aq),XQ y.es≤XQ (Ai ss i).es→Qi (ss.set i y)≤Qi ss
 | [],_,_,_=>by simp[Qi]
 | s::ss,0,y,h=>by
   have h:XQ y.es≤XQ s.es:=h
   simp only[List.set_cons_zero,Qi];omega
 | s::ss,i+1,y,h=>by
   have:=Q2 ss i y h
   simp only[List.set_cons_succ,Qi];omega
structure WP (n:Nat) (S:List Aq) (P:List BM) (i M:Nat):Prop where
 len:S.length=n
 st:∀ s∈S,FJ s.es=true∧(-2000≤s.tn∧s.tn≤2000)∧Iw s.pan=true
 sz:Qi S≤M
 pl:P.length≤i
 pc:∀ c∈P,(0≤c.kind∧c.kind<(n:Int))∧(0≤c.len∧c.len≤256)∧c.nums.length≤256
theorem c8 (H:List Bool) (cl:List BM) (hcl:VE cl) (n M:Nat):∀ (j i:Nat) (S:List Aq) (P:List BM),WP n S P i M→i+j=n→WP n (D4 H cl j i S P).1 (D4 H cl j i S P).2 n M:=by
 intro j
 induction j with
 | zero=>intro i S P h hi;obtain rfl:i=n:=by omega
         exact h
 | succ j ih =>
   intro i S P h hi
   have hS:i<S.length:=by rw[h.len];omega
   obtain ⟨c1,c2⟩:=NW (H:=H) (k:=i) hcl
   obtain ⟨s1,s2,s3⟩:=h.st _ (E4 hS)
   refine ih (i+1) _ _ ⟨by rw[length_set];exact h.len,fun s hs => ?_,?_,?_,fun c hc => ?_⟩ (by omega)
   ·rcases mem_or_eq_of_mem_set hs with hs | rfl
    ·exact h.st s hs
    ·refine ⟨?_,s2,s3⟩
     show FJ (if H.getD i false then Dd (Ai S i).es else [])=true
     unfold FJ at s1 ⊢
     simp only[zB,decide_eq_true_eq,all_eq_true] at s1 ⊢
     split
     ·exact ⟨Nat.le_trans (MD _) s1.1,fun e he=>s1.2 e (Re he)⟩
     ·exact ⟨by simp,fun e he=>by simp at he⟩
   ·refine Nat.le_trans (Q2 S i _ ?_) h.sz
    show XQ (if H.getD i false then Dd (Ai S i).es else [])≤_
    split
    ·exact U0 _
    ·simp[XQ]
   ·rw[length_append];have:=h.pl;omega
   ·rcases mem_append.1 hc with hc | hc
    ·exact h.pc c hc
    ·obtain ⟨q1,q2⟩:=c2 c hc
     exact ⟨by rw[q1];omega,q2⟩
theorem Pv {cl:List BM} {ss:List Aq} (h:Yp cl ss) (M:Nat) (hM:Qi ss≤M):WP ss.length (CX cl ss) (Bx cl ss) ss.length M :=
 c8 (CZ ss) cl (fun c hc=>(h.k c hc).2) ss.length M ss.length 0 ss [] ⟨rfl,h.s,hM,by simp,fun c hc=>by simp at hc⟩ (by omega)
theorem Rg {cl:List BM} {ss:List Aq} (h:Yp cl ss):DU (Bx cl ss) (CX cl ss)=true:=by
 have g:=Pv h (Qi ss) (Nat.le_refl _)
 have hn:=h.n
 have g1:=g.len
 have g2:=g.pl
 unfold DU
 simp only[zB,decide_eq_true_eq,all_eq_true]
 refine ⟨by omega,by omega,fun s hs => ?_,fun c hc => ?_⟩
 ·obtain ⟨a,b,c⟩:=g.st s hs
  unfold YV
  simp only[zB,decide_eq_true_eq]
  exact ⟨a,b,c⟩
 ·obtain ⟨a,b,d⟩:=g.pc c hc
  unfold YC
  simp only[zB,decide_eq_true_eq]
  exact ⟨by omega,b,d⟩
theorem aq {cl:List BM} {ss:List Aq} (h:Yp cl ss):Zk ss:=fun s hs=>by
 have h1:=(h.s s hs).1
 unfold FJ at h1
 simp only[zB,decide_eq_true_eq,all_eq_true] at h1
 exact ⟨by omega,h1.2⟩
theorem YI (n:Nat) (hn:1300<n) (cl:List BM) (ss:List Aq) (hsm:DU cl ss=true→∀ s∈ss,s.es.length≤100∧∀ e∈s.es,e.nums.length≤1000) :
  f22 (n+200) cl.length (AH cl) ss.length (AG ss)=some (if DU cl ss=true then ((Bx cl ss).length,AH (Bx cl ss),(CX cl ss).length,AG (CX cl ss),true) else (0,[],0,[],false)):=by
 have v1:=J9 (n+193) cl ss (by omega)
 have v1:f50 (n+199) cl.length (AH cl) ss.length (AG ss)=_:=v1
 rw[f22,v1]
 cases h1:DU cl ss
 ·rw[if_neg (by simp)];rfl
 rw[if_pos rfl]
 have hok:=J2 h1
 have hcl:VE cl:=fun c hc=>(hok.k c hc).2
 have hc12:=hok.c
 have hs8:=hok.n
 have o1:=dW (n+196) (by omega) cl ss (by omega) (fun e he=>by have:=(hcl e he).2;omega) (by omega) (hsm h1)
 have o1:f42 (n+199) cl.length (AH cl) ss.length (AG ss)=_:=o1
 have o2:=U8 (n+195) cl.length (AH cl) ss (by omega) (by omega)
 have o2:f53 (n+199) cl.length (AH cl) ss.length (AG ss)=_:=o2
 have l1:=Vp (n+197) (by omega) cl (by omega) hcl ss.length (AG ss) 0 [] 0 [] (CZ ss) ss.length 0 (n+199) ss [] (by rw[DW]) (aq hok) (by rw[DW];omega) (by simp) (by rw[DW];omega) (by omega)
 rw[DW] at l1
 have l1:f22.l0 (n+199) (n+199) cl.length (AH cl) ss.length (AG ss) 0 [] 0 [] 0 [] ss.length (AG ss) ss.length (GY (CZ ss)) (ss.length:Int) 0=_:=l1
 have ck:=V2 (n+192) (by omega) (Bx cl ss) (CX cl ss)
 rw[if_pos (Rg hok)] at ck
 have ck:f45 (n+199) (D4 (CZ ss) cl ss.length 0 ss []).2.length (AH (D4 (CZ ss) cl ss.length 0 ss []).2) (D4 (CZ ss) cl ss.length 0 ss []).1.length (AG (D4 (CZ ss) cl ss.length 0 ss []).1)=_:=ck
 simp only[AJ,Bool.not_true,Af,o1,o2,l1,ck,ZX]
def NZ (l:List Nat):Prop:=∀ x∈l,BX x∧x≠2147483648
theorem Le {l:List Nat} {i:Nat} (h:i<l.length):l.getD i 0∈l:=by
 have:l.getD i 0=l[i]:=by simp[List.getD,h]
 rw[this];exact List.getElem_mem h
theorem OL (N:Nat):NZ (List.replicate N 0):=fun x hx=>by
 obtain ⟨-,rfl⟩:=mem_replicate.1 hx
 exact ⟨BZ,by decide⟩
theorem Kn (g p:Nat) {xs ys:List Nat} (h:∀ i,ba (xs.getD i 0) (ys.getD i 0)):∀ (j i:Nat) (L:List Nat),NZ L→i+j≤L.length→MT g p xs j i L=MT g p ys j i L∧NZ (MT g p xs j i L)
 | 0,_,L,hL,_=>⟨rfl,hL⟩
 | j+1,i,L,hL,hle=>by
   obtain ⟨a,b⟩:=hL _ (Le (show i<L.length by omega))
   have e:Au .f32 (L.getD i 0) (AM .f32 (AM .f32 (xs.getD i 0) g) p)=Au .f32 (L.getD i 0) (AM .f32 (AM .f32 (ys.getD i 0) g) p):=(((h i).mul g).mul p).add a b
   have hn:NZ (L.set i (Au .f32 (L.getD i 0) (AM .f32 (AM .f32 (xs.getD i 0) g) p))):=by
    intro x hx
    rcases mem_or_eq_of_mem_set hx with hx | rfl
    ·exact hL x hx
    ·exact ⟨BV _ _,Wa a b⟩
   have ih:=Kn g p h j (i+1) _ hn (by rw[length_set];omega)
   show MT g p xs j (i+1) _=MT g p ys j (i+1) _∧NZ (MT g p xs j (i+1) _)
   rw[← e]
   exact ih
def PN (t t':KE):Prop:=t.xs.length=t'.xs.length∧∀ i,ba (t.xs.getD i 0) (t'.xs.getD i 0)
def Py (t t':KE):Prop:=t.ten=t'.ten∧t.pan=t'.pan∧t.mute=t'.mute∧t.solo=t'.solo
theorem W3 {a:Bool} {t t':KE} (h:Py t t'):hf a t=hf a t' :=by
 obtain ⟨-,-,h1,h2⟩:=h
 unfold hf;rw[h1,h2]
theorem V9 {N:Nat} {s:List Nat × List Nat} {t t':KE} (h:Py t t') (hx:PN t t') (l1:s.1.length=N) (l2:s.2.length=N) (n1:NZ s.1) (n2:NZ s.2):Iz N s t=Iz N s t'∧NZ (Iz N s t).1∧NZ (Iz N s t).2:=by
 obtain ⟨h1,h2,-,-⟩:=h
 obtain ⟨x1,x2⟩:=hx
 unfold Iz
 rw[h1,h2,x1]
 obtain ⟨e1,m1⟩:=Kn (gT t'.ten) (Yk t'.pan) x2 (min t'.xs.length N) 0 s.1 n1 (by omega)
 obtain ⟨e2,m2⟩:=Kn (gT t'.ten) (Xd t'.pan) x2 (min t'.xs.length N) 0 s.2 n2 (by omega)
 rw[e1,e2]
 rw[e1] at m1
 rw[e2] at m2
 exact ⟨rfl,m1,m2⟩
theorem K0 (N:Nat) (a:Bool) (f f':Nat→KE):∀ (L:List Nat) (s:List Nat × List Nat),(∀ i∈L,Py (f i) (f' i))→(∀ i∈L,hf a (f i)=true→PN (f i) (f' i))→s.1.length=N→s.2.length=N→NZ s.1→NZ s.2 →
  ((L.map f).filter (hf a)).foldl (Iz N) s=((L.map f').filter (hf a)).foldl (Iz N) s
 | [],_,_,_,_,_,_,_=>rfl
 | i::L,s,h1,h2,l1,l2,n1,n2=>by
   have hs:=h1 i (by simp)
   rw[map_cons,map_cons]
   cases hb:hf a (f i)
   ·rw[filter_cons_of_neg (by rw[hb];decide),filter_cons_of_neg (by rw[← W3 hs,hb];decide)]
    exact K0 N a f f' L s (fun j hj=>h1 j (by simp[hj])) (fun j hj=>h2 j (by simp[hj])) l1 l2 n1 n2
   ·rw[filter_cons_of_pos hb,filter_cons_of_pos (by rw[← W3 hs,hb]),foldl_cons,foldl_cons]
    obtain ⟨e,m1,m2⟩:=V9 hs (h2 i (by simp) hb) l1 l2 n1 n2
    rw[← e]
    exact K0 N a f f' L _ (fun j hj=>h1 j (by simp[hj])) (fun j hj=>h2 j (by simp[hj])) (EU.1.trans l1) (EU.2.trans l2) m1 m2
theorem Uk (f f':Nat→KE):∀ (L:List Nat),(∀ i∈L,Py (f i) (f' i))→GH (L.map f)=GH (L.map f')
 | [],_=>rfl
 | i::L,h=>by
   have ih:=Uk f f' L fun j hj=>h j (by simp[hj])
   unfold GH at ih ⊢
   rw[map_cons,map_cons,any_cons,any_cons,ih,(h i (by simp)).2.2.2]
theorem Qy (N:Nat) (f f':Nat→KE) (L:List Nat) (h1:∀ i∈L,Py (f i) (f' i)) (h2:∀ i∈L,hf (GH (L.map f)) (f i)=true→PN (f i) (f' i)):Hl N (L.map f)=Hl N (L.map f'):=by
 unfold Hl
 rw[← Uk f f' L h1]
 exact K0 N _ f f' L _ h1 h2 (by simp[bE]) (by simp[bE]) (OL N) (OL N)
def Ka (es:List Ef):List Ef:=es.filter fun e => !NS e.eff
theorem Ye (es:List Ef):Dd (CL es)=CL (Ka es):=by
 unfold Dd CL Ka
 rw[List.filter_map];rfl
theorem Q4 {g:Nat} (hg:Nz .f32 g 1065353216=true):∀ (xs w:List Nat),EO xs→(AR (Ef.scale g).step w xs).1=xs
 | [],_,_=>rfl
 | x::xs,w,h=>by
   show AM .f32 x g::(AR (Ef.scale g).step [] xs).1=_
   rw[ZW (h x (by simp)) hg,Q4 hg xs [] fun y hy=>h y (by simp[hy])]
theorem bZ (e:Ef):bF e (newRow e):=(Sy [e]).fits.1
theorem Om:∀ (es:List Ef) (xs:List Nat),(∀ e∈es,e.Ok)→EO xs→(A0 es (es.map newRow) xs).1=(A0 (Ka es) ((Ka es).map newRow) xs).1
 | [],_,_,_=>rfl
 | e::es,xs,ho,hx=>by
   obtain ⟨a,-⟩:=Jy (ho e (by simp)) xs (bZ e) hx
   show (A0 es (es.map newRow) (AR e.step (newRow e) xs).1).1=_
   rw[Om es _ (fun e he=>ho e (by simp[he])) a]
   cases hu:NS e.eff
   ·have:Ka (e::es)=e::Ka es:=filter_cons_of_pos (by simp[hu])
    rw[this];rfl
   ·have hk:Ka (e::es)=Ka es:=filter_cons_of_neg (by simp[hu])
    rw[hk]
    have hs:(AR e.step (newRow e) xs).1=xs:=by
     cases e with
     | scale g =>
       refine Q4 ?_ xs _ hx
       simpa [NS,Ef.eff] using hu
     | _=>simp[NS,Ef.eff] at hu
    rw[hs]
theorem YE (p:Int) (x:Nat) (out:List Nat) (q:Nat) (hq:q<out.length):(Dc p x out).getD q 0=if p=(q:Int) then Au .f32 (out.getD q 0) x else out.getD q 0:=by
 unfold Dc
 by_cases h:0≤p∧p<(out.length:Int)
 ·rw[if_pos h]
  by_cases e:p=(q:Int)
  ·subst e
   rw[if_pos rfl]
   simp[List.getD,hq]
  ·rw[if_neg e]
   have:p.toNat≠q:=by omega
   simp[List.getD,List.getElem?_set_ne this]
 ·rw[if_neg h,if_neg (by omega)]
theorem Eb:∀ (xs:List Nat) (p:Int) (out:List Nat) (q:Nat),q<out.length→(CQ p xs out).getD q 0=if 0≤(q:Int) - p∧(q:Int) - p<(xs.length:Int) then Au .f32 (out.getD q 0) (xs.getD ((q:Int) - p).toNat 0) else out.getD q 0
 | [],p,out,q,_=>by
   rw[if_neg (by simp only[length_nil];omega)];rfl
 | x::xs,p,out,q,hq=>by
   rw[CQ,Eb xs (p+1) _ q (by rw[DK];exact hq),YE p x out q hq]
   by_cases e:p=(q:Int)
   ·subst e
    rw[if_neg (by omega),if_pos rfl,if_pos (by simp only[length_cons];omega)]
    simp
   ·rw[if_neg e]
    by_cases h:0≤(q:Int) - (p+1)∧(q:Int) - (p+1)<(xs.length:Int)
    ·rw[if_pos h,if_pos (by simp only[length_cons];omega)]
     have:((q:Int) - p).toNat=((q:Int) - (p+1)).toNat+1:=by omega
     rw[this];rfl
    ·rw[if_neg h,if_neg (by simp only[length_cons];omega)]
theorem LJ (track frm:Int):∀ (cs:List BM) (out out':List Nat) (q:Nat),q<out.length→q<out'.length→out.getD q 0=out'.getD q 0→(AP track frm cs out).getD q 0=(AP track frm cs out').getD q 0
 | [],_,_,_,_,_,h=>h
 | c::cs,out,out',q,h1,h2,h=>by
   rw[AP,AP]
   by_cases hk:c.kind=track
   ·rw[if_pos hk,if_pos hk]
    refine LJ track frm cs _ _ q (by rw[A9];exact h1) (by rw[A9];exact h2) ?_
    rw[Eb _ _ _ _ h1,Eb _ _ _ _ h2,h]
   ·rw[if_neg hk,if_neg hk]
    exact LJ track frm cs _ _ q h1 h2 h
theorem Jd (track:Int):∀ (cs:List BM) (out:List Nat) (q:Nat),q<out.length→(∀ c∈cs,c.kind=track→¬ (c.len≤(q:Int)∧(q:Int)<c.len+(c.nums.length:Int)))→(AP track 0 cs out).getD q 0=out.getD q 0
 | [],_,_,_,_=>rfl
 | c::cs,out,q,hq,h=>by
   rw[AP]
   by_cases hk:c.kind=track
   ·rw[if_pos hk,Jd track cs _ q (by rw[A9];exact hq) (fun x hx=>h x (by simp[hx])),Eb _ _ _ _ hq]
    have:=h c (by simp) hk
    rw[if_neg (by omega)]
   ·rw[if_neg hk]
    exact Jd track cs _ q hq fun x hx=>h x (by simp[hx])
theorem ZE {p:Int} {x:Nat} {out:List Nat} (h:NZ out):NZ (Dc p x out):=by
 unfold Dc
 split
 ·rename_i hp
  intro y hy
  rcases mem_or_eq_of_mem_set hy with h' | rfl
  ·exact h y h'
  ·obtain ⟨a,b⟩:=h _ (Le (show p.toNat<out.length by omega))
   exact ⟨BV _ _,Wa a b⟩
 ·exact h
theorem Ov:∀ (xs:List Nat) (p:Int) (out:List Nat),NZ out→NZ (CQ p xs out)
 | [],_,_,h=>h
 | x::xs,p,out,h=>Ov xs _ _ (ZE h)
theorem OU (track frm:Int):∀ (cs:List BM) (out:List Nat),NZ out→NZ (AP track frm cs out)
 | [],_,h=>h
 | c::cs,out,h=>by
   rw[AP]
   refine OU track frm cs _ ?_
   split
   ·exact Ov _ _ _ h
   ·exact h
theorem HM (track frm:Int):∀ (a b:List BM) (out:List Nat),AP track frm (a++b) out=AP track frm b (AP track frm a out)
 | [],_,_=>rfl
 | c::a,b,out=>by rw[cons_append,AP,AP,HM track frm a b]
theorem Es (track frm:Int):∀ (a:List BM) (out:List Nat),(∀ c∈a,c.kind≠track)→AP track frm a out=out
 | [],_,_=>rfl
 | c::a,out,h=>by
   rw[AP,if_neg (h c (by simp)),Es track frm a out fun x hx=>h x (by simp[hx])]
theorem M7 (k:Int):∀ (cs:List BM) (f t:Int),(∀ c∈cs,0≤c.len)→(0≤f→0≤(Bk k cs f t).1∧(Bk k cs f t).1≤f)∧t≤(Bk k cs f t).2
 | [],f,t,_=>⟨fun h=>⟨h,Int.le_refl _⟩,Int.le_refl _⟩
 | c::cs,f,t,hc=>by
   have h0:=hc c (by simp)
   rw[Ma]
   by_cases hk:c.kind=k
   ·rw[if_pos hk]
    obtain ⟨a,b⟩:=M7 k cs (if f<0∨c.len<f then c.len else f) (if t<c.len+(c.nums.length:Int) then c.len+(c.nums.length:Int) else t) (fun x hx=>hc x (by simp[hx]))
    refine ⟨fun hf => ?_,?_⟩
    ·by_cases h:f<0∨c.len<f
     ·rw[if_pos h] at a
      have:=a h0
      rw[if_pos h];omega
     ·rw[if_neg h] at a
      have:=a hf
      rw[if_neg h];omega
    ·refine Int.le_trans ?_ b
     split <;>omega
   ·rw[if_neg hk]
    exact M7 k cs f t fun x hx=>hc x (by simp[hx])
theorem Kv (k:Int):∀ (cs:List BM) (f t:Int),(∀ c∈cs,0≤c.len)→∀ c∈cs,c.kind=k→0≤(Bk k cs f t).1∧(Bk k cs f t).1≤c.len∧c.len+(c.nums.length:Int)≤(Bk k cs f t).2
 | [],_,_,_,c,hc,_=>by simp at hc
 | d::cs,f,t,hl,c,hc,hk=>by
   have h0:=hl d (by simp)
   have hl':∀ x∈cs,0≤x.len:=fun x hx=>hl x (by simp[hx])
   rw[Ma]
   rcases mem_cons.1 hc with rfl | hc
   ·rw[if_pos hk]
    obtain ⟨a,b⟩:=M7 k cs (if f<0∨c.len<f then c.len else f) (if t<c.len+(c.nums.length:Int) then c.len+(c.nums.length:Int) else t) hl'
    have a:=a (by split <;>omega)
    refine ⟨a.1,Int.le_trans a.2 ?_,Int.le_trans ?_ b⟩
    ·split <;>omega
    ·split <;>omega
   ·by_cases hd:d.kind=k
    ·rw[if_pos hd];exact Kv k cs _ _ hl' c hc hk
    ·rw[if_neg hd];exact Kv k cs _ _ hl' c hc hk
theorem Zc {l l':List Nat} (hl:l.length=l'.length) (h:∀ q,q<l.length→l.getD q 0=l'.getD q 0):l=l' :=by
 refine List.ext_getElem hl fun i h1 h2 => ?_
 have:=h i h1
 simpa [List.getD,h1,h2] using this
theorem Je (k q:Nat):(List.replicate k 0).getD q 0=0:=by
 simp only[List.getD,List.getElem?_replicate]
 split <;>rfl
theorem WG {H:List Bool} {cl:List BM} {i:Nat} (hi:H.getD i false=true) (hcl:VE cl) (k:Nat) (hk:k≤256):AP (i:Int) 0 (Ff H cl i) (List.replicate k 0)=AP (i:Int) 0 cl (List.replicate k 0):=by
 have hsp:=MR (i:Int) cl (-1) 0 hcl (.inl ⟨rfl,rfl⟩)
 have hcov:=Kv (i:Int) cl (-1) 0 (fun c hc=>(hcl c hc).1.1)
 unfold Ff
 rw[hi,if_pos rfl]
 obtain ⟨f,hf⟩:∃ f,f=(Bk (i:Int) cl (-1) 0).1:=⟨_,rfl⟩
 obtain ⟨t,ht⟩:∃ t,t=(Bk (i:Int) cl (-1) 0).2:=⟨_,rfl⟩
 rw[← hf,← ht] at hsp hcov ⊢
 rcases hsp with ⟨rfl,rfl⟩ | ⟨a1,a2,a3,a4⟩
 ·rw[if_pos (by decide),Es (i:Int) 0 cl _ fun c hc he=>by have:=(hcov c hc he).1;omega]
  rfl
 ·obtain ⟨f,rfl⟩:=Int.eq_ofNat_of_zero_le a1
  rw[if_neg (by omega)]
  obtain ⟨L,hL⟩:∃ L,L=(min 256 (t - (f:Int))).toNat:=⟨_,rfl⟩
  rw[← hL]
  show AP (i:Int) 0 [⟨(i:Int),(f:Int),AP (i:Int) (f:Int) cl (List.replicate L 0)⟩] _=_
  rw[AP,AP,if_pos rfl,Int.sub_zero]
  refine Zc (by rw[A9,BO]) fun q hq => ?_
  rw[A9,length_replicate] at hq
  show (CQ (f:Int) (AP (i:Int) (f:Int) cl (List.replicate L 0)) (List.replicate k 0)).getD q 0=_
  rw[Eb _ _ _ _ (by simpa using hq),Je,BO,length_replicate]
  by_cases h:0≤(q:Int) - (f:Int)∧(q:Int) - (f:Int)<(L:Int)
  ·rw[if_pos h]
   have hn:NZ (AP (i:Int) (f:Int) cl (List.replicate L 0)):=OU _ _ _ _ (OL L)
   have hlt:((q:Int) - (f:Int)).toNat<(AP (i:Int) (f:Int) cl (List.replicate L 0)).length:=by rw[BO,length_replicate];omega
   obtain ⟨b1,b2⟩:=hn _ (Le hlt)
   rw[(Wy b1 b2 (.inl rfl)).2]
   have hd:=LY (i:Int) f cl (List.replicate (f+L) 0) (by rw[length_replicate];omega)
   rw[List.drop_replicate,show f+L - f=L by omega] at hd
   rw[← hd]
   have e1:((AP (i:Int) 0 cl (List.replicate (f+L) 0)).drop f).getD ((q:Int) - (f:Int)).toNat 0=(AP (i:Int) 0 cl (List.replicate (f+L) 0)).getD q 0:=by
    simp only[List.getD,List.getElem?_drop]
    rw[show f+((q:Int) - (f:Int)).toNat=q by omega]
   rw[e1]
   exact LJ _ _ _ _ _ q (by rw[length_replicate];omega) (by rw[length_replicate];omega) (by rw[Je,Je])
  ·rw[if_neg h,Jd (i:Int) cl _ q (by simpa using hq) fun c hc he => ?_,Je]
   have:=hcov c hc he
   omega
theorem Rc (H:List Bool) (cl:List BM):∀ (j i:Nat) (S:List Aq) (P:List BM),(D4 H cl j i S P).2=P++(List.range' i j).flatMap (Ff H cl)
 | 0,i,S,P=>by simp[D4]
 | j+1,i,S,P=>by
   show (D4 H cl j (i+1) _ _).2=_
   rw[Rc H cl j (i+1),List.range'_succ,flatMap_cons,append_assoc]
theorem PR (H:List Bool) (cl:List BM):∀ (j i:Nat) (S:List Aq) (P:List BM) (q:Nat),i+j≤S.length→Ai (D4 H cl j i S P).1 q=if i≤q∧q<i+j then HA H q (Ai S q) else Ai S q
 | 0,i,S,P,q,_=>by rw[if_neg (by omega)];rfl
 | j+1,i,S,P,q,h=>by
   show Ai (D4 H cl j (i+1) _ _).1 q=_
   rw[PR H cl j (i+1) _ _ q (by rw[length_set];omega)]
   by_cases e:q=i
   ·subst e
    rw[if_neg (by omega),VH (by omega),if_pos (by omega)]
   ·have hs:Ai (S.set i (HA H i (Ai S i))) q=Ai S q:=by
     simp[Ai,List.getD,List.getElem?_set_ne (Ne.symm e)]
    rw[hs]
    by_cases h2:i+1≤q∧q<i+1+j
    ·rw[if_pos h2,if_pos (by omega)]
    ·rw[if_neg h2,if_neg (by omega)]
theorem Lk (H:List Bool) (cl:List BM) (hcl:VE cl) (t:Nat):∀ (j i:Nat) (out:List Nat),AP (t:Int) 0 ((List.range' i j).flatMap (Ff H cl)) out=if i≤t∧t<i+j then AP (t:Int) 0 (Ff H cl t) out else out
 | 0,i,out=>by rw[if_neg (by omega)];rfl
 | j+1,i,out=>by
   rw[List.range'_succ,flatMap_cons,HM,Lk H cl hcl t j (i+1)]
   have hk:=(NW (H:=H) (k:=i) hcl).2
   by_cases e:t=i
   ·subst e
    rw[if_neg (by omega),if_pos (by omega)]
   ·rw[Es (t:Int) 0 (Ff H cl i) out fun c hc he=>by
     have:=(hk c hc).1
     omega]
    by_cases h2:i+1≤t∧t<i+1+j
    ·rw[if_pos h2,if_pos (by omega)]
    ·rw[if_neg h2,if_neg (by omega)]
def TH (H:List Bool) (E:Nat→List Ef) (i:Nat):List Ef:=if H.getD i false then Ka (E i) else []
theorem Ux {cl:List BM} {ss:List Aq} {i:Nat} (h:i<ss.length):Ai (CX cl ss) i=HA (CZ ss) i (Ai ss i):=by
 unfold CX
 rw[PR _ _ _ _ _ _ _ (by omega),if_pos (by omega)]
theorem Yz {cl:List BM} {ss:List Aq} (h:Yp cl ss) {E:Nat→List Ef} (hE:KM E ss):KM (TH (CZ ss) E) (CX cl ss):=by
 intro i hi
 have hi:i<ss.length:=by rw[(Pv h _ (Nat.le_refl _)).len] at hi;exact hi
 obtain ⟨e1,e2,e3⟩:=hE i hi
 rw[Ux hi]
 unfold TH HA
 cases (CZ ss).getD i false
 ·exact ⟨rfl,fun e he=>by simp at he,by simp⟩
 ·refine ⟨?_,fun e he=>e2 e (mem_filter.1 he).1,Nat.le_trans (List.length_filter_le _ _) e3⟩
  show CL (Ka (E i))=Dd (Ai ss i).es
  rw[← e1,Ye]
theorem az (E:Nat→List Ef) (cl:List BM) (ss:List Aq) (k:Nat):GH (CB E cl ss k ss.length)=GH (ss.map KZ):=by
 unfold GH CB
 rw[any_map,any_map,Bool.eq_iff_iff,any_eq_true,any_eq_true]
 constructor
 ·rintro ⟨i,hi,h⟩
  have hi:=mem_range.1 hi
  exact ⟨Ai ss i,E4 hi,h⟩
 ·rintro ⟨s,hs,h⟩
  obtain ⟨i,hi,rfl⟩:=List.mem_iff_getElem.1 hs
  refine ⟨i,mem_range.2 hi,?_⟩
  have:Ai ss i=ss[i]:=by simp[Ai,List.getD,hi]
  show (Ai ss i).solo=true
  rw[this];exact h
theorem ac {ss:List Aq} {i:Nat} (h:i<ss.length) (E:Nat→List Ef) (cl:List BM) (k:Nat):(CZ ss).getD i false=hf (GH (CB E cl ss k ss.length)) (QL E cl ss k i):=by
 have ht:i<(ss.map KZ).length:=by simpa using h
 unfold CZ
 rw[Sq (α:=Unit) _ ht,az]
 have:G5 (ss.map KZ) i=KZ (Ai ss i):=by simp[G5,Ai,List.getD,h]
 rw[this];rfl
theorem Ze {cl:List BM} {ss:List Aq} (h:Yp cl ss) {E:Nat→List Ef} (hE:KM E ss) (k:Nat) (hk:k≤256) :
  Hl k (CB E cl ss k ss.length)=Hl k (CB (TH (CZ ss) E) (Bx cl ss) (CX cl ss) k ss.length):=by
 have hcl:VE cl:=fun c hc=>(h.k c hc).2
 unfold CB
 refine Qy k _ _ _ (fun i hi => ?_) fun i hi hb => ?_
 ·have hi:=mem_range.1 hi
  unfold Py QL
  rw[Ux hi]
  exact ⟨rfl,rfl,rfl,rfl⟩
 ·have hi:=mem_range.1 hi
  have hH:(CZ ss).getD i false=true:=by rw[ac hi E cl k];exact hb
  obtain ⟨e1,e2,e3⟩:=hE i hi
  have key:C9 (TH (CZ ss) E i) (i:Int) (Bx cl ss) k=C9 (E i) (i:Int) cl k:=by
   unfold C9 TH
   rw[hH,if_pos rfl]
   have ht:AP (i:Int) 0 (Bx cl ss) (List.replicate k 0)=AP (i:Int) 0 cl (List.replicate k 0):=by
    unfold Bx
    rw[Rc,nil_append,Lk _ _ hcl,if_pos (by omega),WG hH hcl k hk]
   rw[ht,← Om (E i) _ e2 (Fk _ _ _ _ (FV k))]
  unfold PN QL
  simp only[key]
  exact ⟨trivial,fun _ => .inl rfl⟩
def Fc (t:Int) (c:BM):Bool:=!(c.kind==t)
theorem WX (t:Int):∀ cl:List BM,Dq 3 (Ez [.ref [.int .i64 t]]) cl.length (AH cl)=some ((cl.filter (Fc t)).length,AH (cl.filter (Fc t)))
 | []=>rfl
 | c::cs=>by
   have h1:(EN c++AH cs).take 3=EN c:=rfl
   have h2:(EN c++AH cs).drop 3=AH cs:=rfl
   have h3:Ez [.ref [.int .i64 t]] (EN c)=some (c.kind==t):=rfl
   show Dq 3 _ (cs.length+1) (EN c++AH cs)=_
   simp only[Dq,h1,h2,h3,WX t cs]
   cases h:c.kind==t
   ·rw[filter_cons_of_pos (by simp[Fc,h])];rfl
   ·rw[filter_cons_of_neg (by simp[Fc,h])]
theorem XH (n:Nat) (t k:Int) (N5:Nat) (t5:List T) (N7:Nat) (t7:List T) (N9:Nat) (t9:List T) (N13:Nat) (t13:List T) (cs:List BM) (hl:cs.length≤100) (hx:∀ e∈cs,e.nums.length≤1000):∀ (j i m:Nat) (P:List BM),i+j=cs.length→P.length≤i→j<m →
  f15.l0 (n+2) m t k cs.length (AH cs) N5 t5 N7 t7 N9 t9 P.length (AH P) N13 t13 (cs.length:Int) (i:Int)=some (t,k,cs.length,AH cs,N5,t5,N7,t7,N9,t9,(P++(cs.drop i).filter (Fc t)).length,AH (P++(cs.drop i).filter (Fc t)),N13,t13):=by
 intro j
 induction j with
 | zero =>
   intro i m P hi hP hm
   obtain ⟨m,rfl⟩:=zc m (by omega)
   rw[f15.l0,A8 (by omega),drop_eq_nil_of_le (by omega),List.filter_nil,append_nil];rfl
 | succ j ih =>
   intro i m P hi hP hm
   obtain ⟨m,rfl⟩:=zc m (by omega)
   have h:i<cs.length:=by omega
   have g:=Wi n (Cg cs i) (by have:=hx _ (GN h);omega)
   have hp:=E6 P (Cg cs i)
   unfold EN at hp
   rw[f15.l0,Bf h,A1 h,zT,U5 h,Dl h]
   simp only[AV,zA,Ay,kE h,gE h,nE h,lE h,g,AJ,An (show P.length<2147483648 by omega),hp,AZ (show i<9223372036854775807 by omega)]
   rw[A6 (z:=Cg cs i)]
   cases hk:(Cg cs i).kind==t
   ·rw[show ((Cg cs i).kind != t)=true by simp[bne,hk],AV,ih (i+1) m _ (by omega) (by simp;omega) (by omega),filter_cons_of_pos (by simp[Fc,hk])]
    simp
   ·rw[show ((Cg cs i).kind != t)=false by simp[bne,hk],Af,ih (i+1) m _ (by omega) (by omega) (by omega),filter_cons_of_neg (by simp[Fc,hk])]
def Ob (s:Aq):Aq:=⟨[],s.tn,s.pan,s.mute,s.solo⟩
theorem cQ {ss:List Aq} {i:Nat} (h:i<ss.length):AF (AG ss) (i * 5+0) [T.lst 0 []]=AG (ss.set i (Ob (Ai ss i))):=by
 rw[Fm]
 exact PG LM ⟨[],0,0,false,false⟩ ss i 0 (T.lst 0 []) (Ob (Ai ss i)) h (by decide) rfl
def E8 (es:List Ef) (cl:List BM) (i k:Nat):List BM:=cl.filter (Fc (i:Int))++[⟨(i:Int),0,C9 es (i:Int) cl k⟩]
def FL (ss:List Aq) (i:Nat):List Aq:=ss.set i (Ob (Ai ss i))
theorem US (n:Nat) (hn:1200<n) (cl:List BM) (ss:List Aq) (h1:DU cl ss=true) (hst:∀ s∈ss,s.es.length≤100∧∀ e∈s.es,e.nums.length≤1000) (i k:Nat) (hi:i<ss.length) (hk:k≤256) (es:List Ef) (e1:CL es=(Ai ss i).es) (e2:∀ e∈es,e.Ok) (e3:es.length≤8) :
  f15 (n+200) cl.length (AH cl) ss.length (AG ss) (i:Int) (k:Int)=some (if DU (E8 es cl i k) (FL ss i)=true then ((E8 es cl i k).length,AH (E8 es cl i k),(FL ss i).length,AG (FL ss i),true) else (0,[],0,[],false)) ∧
  f16 (n+200) cl.length (AH cl) ss.length (AG ss) (i:Int) (k:Int)=some (if DU (E8 es cl i k) (FL ss i)=true then ((E8 es cl i k).length,AH (E8 es cl i k),(FL ss i).length,AG (FL ss i),true) else (0,[],0,[],false)):=by
 have hok:=J2 h1
 have hs8:=hok.n
 have v1:=Wc (n+193) cl ss (by omega)
 have v1:f27 (n+199) cl.length (AH cl) ss.length (AG ss)=_:=v1
 have v2:=J9 (n+192) cl ss (by omega)
 have v2:f50 (n+198) cl.length (AH cl) ss.length (AG ss)=_:=v2
 have w:IntKind.i64.wrap ((ss.length:Int) - 1)=(ss.length:Int) - 1:=by rw[BD] <;>omega
 have c2:f29 (n+199) (k:Int)=some (decide (0≤(k:Int)∧(k:Int)≤256)):=by rw[f29,Xn];rfl
 rw[f15,f16,v1,f33,v2,w]
 simp only[AJ,Xn,Wf (n+196) (i:Int) ss.length (by omega),R3 (n+196),c2]
 rw[h1,decide_eq_true (show 0≤(i:Int)∧(i:Int)≤(ss.length:Int) - 1 by omega),decide_eq_true (show 0≤(k:Int)∧(k:Int)≤256 by omega)]
 obtain ⟨f1,f2⟩:=FQ e2 (i:Int) cl k
 have hcl:∀ e∈cl,e.nums.length≤256:=fun e he=>(hok.k e he).2.2
 have hc12:=hok.c
 have hs8:=hok.n
 have g1:=XL (n+95) (by omega) hok i k hi (by omega) es e1 e2 e3
 have g1:f30 (n+199) cl.length (AH cl) ss.length (AG ss) (i:Int) (k:Int)=_:=g1
 have g2:=RL (n+95) (by omega) hok i k hi (by omega) es e1 e2 e3
 have g2:f34 (n+199) cl.length (AH cl) ss.length (AG ss) (i:Int) (k:Int)=_:=g2
 have o1:=f7 (n+196) (by omega) cl ss (by omega) (fun e he=>by have:=hcl e he;omega) (by omega) hst
 have o1:f40 (n+199) cl.length (AH cl) ss.length (AG ss)=_:=o1
 have o2:=dW (n+196) (by omega) cl ss (by omega) (fun e he=>by have:=hcl e he;omega) (by omega) hst
 have o2:f42 (n+199) cl.length (AH cl) ss.length (AG ss)=_:=o2
 have l1:=XH (n+197) (i:Int) (k:Int) ss.length (AG ss) 0 [] 0 [] ss.length (AG ss) cl (by omega) (fun e he=>by have:=hcl e he;omega) cl.length 0 (n+199) [] (by omega) (by simp) (by omega)
 simp only[drop_zero,nil_append] at l1
 have l1:f15.l0 (n+199) (n+199) (i:Int) (k:Int) cl.length (AH cl) ss.length (AG ss) 0 [] 0 [] 0 (reps 0 [(T.int .i64 (0:Int)),(T.int .i64 (0:Int)),(T.lst 0 [])]) ss.length (AG ss) (cl.length:Int) 0=_:=l1
 obtain ⟨fl,hfl⟩:∃ fl,fl=cl.filter (Fc (i:Int)):=⟨_,rfl⟩
 have hfll:fl.length≤cl.length:=by rw[hfl];exact List.length_filter_le _ _
 have hx3:FU 3 (n+199) cl.length (AH cl) (i:Int)=some (fl.length,AH fl,cl.length,AH cl):=by
  show HO 3 (Ez [.ref [.int .i64 (i:Int)]]) cl.length (AH cl)=_
  unfold HO
  rw[if_pos (by omega),WX,← hfl]
 rw[← hfl] at l1
 obtain ⟨X,hX⟩:∃ X:BM,X=⟨(i:Int),0,C9 es (i:Int) cl k⟩:=⟨_,rfl⟩
 have hp:=E6 fl X
 rw[hX,← hX] at hp
 have hp2:AH fl++AF (reps 1 [(T.int .i64 (0:Int)),(T.int .i64 (0:Int)),(T.lst 0 [])]) 0 (AF (AF [(T.int .i64 (0:Int)),(T.int .i64 (0:Int)),(T.lst 0 [])] 0 [(T.int .i64 (i:Int))]) 2 [(T.lst (C9 es (i:Int) cl k).length (AL .f32 (C9 es (i:Int) cl k)))])=AH (fl++[X]):=by
  rw[← hp,hX];rfl
 rw[f1] at hp2
 have pk:Nat.ble (fl++[X]).length 2147483648=true:=Dj (by simp;omega)
 obtain ⟨S,hS⟩:∃ S,S=ss.set i (Ob (Ai ss i)):=⟨_,rfl⟩
 have hb:=cQ hi
 rw[← hS] at hb
 have hSl:S.length=ss.length:=by rw[hS];simp
 have v3:=Wc (n+193) (fl++[X]) S (by omega)
 have v3:f27 (n+199) (fl++[X]).length (AH (fl++[X])) S.length (AG S)=_:=v3
 have v4:=J9 (n+192) (fl++[X]) S (by omega)
 have v4:f50 (n+198) (fl++[X]).length (AH (fl++[X])) S.length (AG S)=_:=v4
 have ck:f45 (n+199) (fl++[X]).length (AH (fl++[X])) S.length (AG S)=some (if DU (fl++[X]) S=true then .inr ((fl++[X]).length,AH (fl++[X]),S.length,AG S,true,(fl++[X]).length,AH (fl++[X]),S.length,AG S) else .inl (0,[],0,[],false,(fl++[X]).length,AH (fl++[X]),S.length,AG S)):=by
  rw[f45,v4,AJ]
  cases DU (fl++[X]) S <;>rfl
 have ble:Nat.ble (i * 5+0+1) (AG ss).length=true:=by rw[Ii];apply Dj;omega
 have hpl:fl.length+1=(fl++[X]).length:=by simp
 have z0:[(T.lst 0 (reps 0 [(T.int .i64 (0:Int)),(T.int .i64 (0:Int)),(T.lst 0 [])]))]=[T.lst 0 []]:=rfl
 have r1:decide ((0:Int)≤(i:Int)∧(i:Int)<((ss.length:Nat):Int))=true:=A1 hi
 simp only[Bool.not_true,Af,AV,AJ,o1,o2,l1,hx3,g1,g2,Ay,hpl,pk,hp2,r1,zT,ble,z0,hb]
 rw[← hSl]
 simp only[v3,ck,AJ]
 have hC:E8 es cl i k=fl++[X]:=by unfold E8;rw[hfl,hX]
 have hSS:FL ss i=S:=by unfold FL;rw[hS]
 rw[hC,hSS]
 cases hv:DU (fl++[X]) S
 ·exact ⟨rfl,rfl⟩
 ·exact ⟨rfl,rfl⟩
def Tm (E:Nat→List Ef) (t j:Nat):List Ef:=if j=t then [] else E j
theorem Ri {ss:List Aq} {t j:Nat} (h:j<ss.length):Ai (FL ss t) j=if j=t then Ob (Ai ss t) else Ai ss j:=by
 unfold FL
 by_cases e:j=t
 ·subst e;rw[if_pos rfl,VH h]
 ·rw[if_neg e]
  simp[Ai,List.getD,List.getElem?_set_ne (Ne.symm e)]
theorem bO {ss:List Aq} {E:Nat→List Ef} (hE:KM E ss) (t:Nat):KM (Tm E t) (FL ss t):=by
 intro j hj
 have hj:j<ss.length:=by unfold FL at hj;rw[length_set] at hj;exact hj
 rw[Ri hj]
 unfold Tm
 by_cases e:j=t
 ·rw[if_pos e,if_pos e]
  exact ⟨rfl,fun e he=>by simp at he,by simp⟩
 ·rw[if_neg e,if_neg e];exact hE j hj
theorem Gk {j t:Nat} (h:j≠t):∀ (cs:List BM) (out:List Nat),AP (j:Int) 0 (cs.filter (Fc (t:Int))) out=AP (j:Int) 0 cs out
 | [],_=>rfl
 | c::cs,out=>by
   by_cases hk:c.kind=(t:Int)
   ·rw[filter_cons_of_neg (by simp[Fc,hk]),Gk h cs,AP,if_neg (by rw[hk];omega)]
   ·rw[filter_cons_of_pos (by simp[Fc,hk]),AP,AP,Gk h cs]
theorem cX {cl:List BM} {ss:List Aq} (h:Yp cl ss) {E:Nat→List Ef} (hE:KM E ss) (k:Nat) {t:Nat} (ht:t<ss.length) :
  Hl k (CB E cl ss k ss.length)=Hl k (CB (Tm E t) (E8 (E t) cl t k) (FL ss t) k ss.length):=by
 unfold CB
 refine Qy k _ _ _ (fun i hi => ?_) fun i hi _ => ?_
 ·have hi:=mem_range.1 hi
  unfold Py QL
  rw[Ri hi]
  by_cases e:i=t
  ·subst e;rw[if_pos rfl];exact ⟨rfl,rfl,rfl,rfl⟩
  ·rw[if_neg e];exact ⟨rfl,rfl,rfl,rfl⟩
 ·have hi:=mem_range.1 hi
  unfold PN QL
  simp only
  by_cases e:i=t
  ·subst e
   obtain ⟨-,e2,-⟩:=hE i hi
   obtain ⟨l1,w1⟩:=FQ e2 (i:Int) cl k
   have hx:C9 (Tm E i i) (i:Int) (E8 (E i) cl i k) k=CQ 0 (C9 (E i) (i:Int) cl k) (List.replicate k 0):=by
    unfold C9 Tm
    rw[if_pos rfl]
    show AP (i:Int) 0 (E8 (E i) cl i k) (List.replicate k 0)=_
    unfold E8
    rw[HM,Es (i:Int) 0 (cl.filter (Fc (i:Int))) _ fun c hc he=>by
     have:=(mem_filter.1 hc).2
     simp[Fc,he] at this]
    rw[AP,AP,if_pos rfl]
    rfl
   rw[hx]
   refine ⟨by rw[A9,length_replicate,l1],fun q => ?_⟩
   by_cases hq:q<k
   ·rw[Eb _ _ _ _ (by simpa using hq),Je,if_pos (by omega)]
    rw[show ((q:Int) - 0).toNat=q by omega]
    rcases aH (w1 _ (Le (show q<(C9 (E i) (i:Int) cl k).length by omega))) with h1 | ⟨h1,h2⟩
    ·exact .inl h1.symm
    ·exact .inr ⟨h2,h1⟩
   ·left
    have h1:(C9 (E i) (i:Int) cl k)[q]?=none:=List.getElem?_eq_none (by omega)
    have h2:(CQ 0 (C9 (E i) (i:Int) cl k) (List.replicate k 0))[q]?=none:=List.getElem?_eq_none (by rw[A9,length_replicate];omega)
    simp only[List.getD,h1,h2]
  ·have hx:C9 (Tm E t i) (i:Int) (E8 (E t) cl t k) k=C9 (E i) (i:Int) cl k:=by
    unfold C9 Tm
    rw[if_neg e]
    unfold E8
    rw[HM,Gk e,Es (i:Int) 0 [⟨(t:Int),0,C9 (E t) (t:Int) cl k⟩] _ fun c hc he=>by
     rw[mem_singleton] at hc
     subst hc
     have he:(t:Int)=(i:Int):=he
     omega]
   rw[hx]
   exact ⟨rfl,fun _ => .inl rfl⟩
theorem Pj (n:Nat) (hn:1400<n) (cl:List BM) (ss:List Aq) (h1:DU cl ss=true) (E:Nat→List Ef) (hE:KM E ss) (k:Nat) (hk:k≤256) :
  f21 (n+200) cl.length (AH cl) ss.length (AG ss) (k:Int)=some (k,AL .f32 (Hl k (CB E cl ss k ss.length)).1,k,AL .f32 (Hl k (CB E cl ss k ss.length)).2,true):=by
 have v2:=J9 (n+193) cl ss (by omega)
 have v2:f50 (n+199) cl.length (AH cl) ss.length (AG ss)=_:=v2
 have c1:=R3 (n+197) (k:Int)
 have c1:f51 (n+199) (k:Int)=_:=c1
 have hok:=J2 h1
 have hs8:ss.length≤8:=hok.n.2
 have a1:=Qp (n+49) (by omega) cl ss hok E hE k hk hs8 ss.length 0 (n+199) (by omega) (by omega)
 have a1:f21.l0 (n+199) (n+199) (k:Int) cl.length (AH cl) ss.length (AG ss) 0 [] ss.length (AG ss) (ss.length:Int) 0=some ((k:Int),ss.length,Em (CB E cl ss k ss.length)):=a1
 have m1:=cA (n+157) k (by omega) (CB E cl ss k ss.length) (by rw[GV];omega) (Z5 hok hE hk) (by omega)
 rw[GV] at m1
 have m1:f52 (n+199) ss.length (Em (CB E cl ss k ss.length)) (k:Int)=_:=m1
 rw[f21,v2]
 simp only[AJ,c1,h1,decide_eq_true (show 0≤(k:Int)∧(k:Int)≤256 by omega),Bool.not_true,Af,a1,m1]
theorem Xy (n:Nat) (n1:Nat) (l2:List T) (n3:Nat) (l4:List T) (cs:List BM) (hl:cs.length≤100) (hx:∀ c∈cs,c.nums.length≤1000):∀ (j i m:Nat) (a:Int),0≤a→a+1000 * (j:Int)≤1000000→i+j=cs.length→j<m →
  ∃ r:Int,0≤r∧r≤a+1000 * (j:Int)∧f23.l0 (n+1) m n1 l2 n3 l4 a cs.length (AH cs) (cs.length:Int) (i:Int)=some (n1,l2,n3,l4,r):=by
 intro j
 induction j with
 | zero =>
   intro i m a h0 _ hi hm
   obtain ⟨m,rfl⟩:=zc m (by omega)
   refine ⟨a,h0,by omega,?_⟩
   rw[f23.l0,A8 (by omega)];rfl
 | succ j ih =>
   intro i m a h0 h1 hi hm
   obtain ⟨m,rfl⟩:=zc m (by omega)
   have h:i<cs.length:=by omega
   have hc:=hx _ (GN h)
   have w:IntKind.i64.wrap (a+((Cg cs i).nums.length:Int))=a+((Cg cs i).nums.length:Int):=by rw[BD] <;>omega
   obtain ⟨r,r0,r1,e⟩:=ih (i+1) m (a+((Cg cs i).nums.length:Int)) (by omega) (by omega) (by omega) (by omega)
   refine ⟨r,r0,by omega,?_⟩
   rw[f23.l0,Bf h,A1 h,zT,U5 h]
   simp only[AV,zA,Ay,nE h,MW n,AJ,w,AZ (show i<9223372036854775807 by omega),e]
theorem YM (n:Nat) (n1:Nat) (l2:List T) (ss:List Aq) (hl:ss.length≤100) (hx:∀ s∈ss,s.es.length≤100) (H:List Bool) (hH:H.length=ss.length):∀ (j i m:Nat) (a:Int),0≤a→a+100000 * (j:Int)≤100000000→i+j=ss.length→j<m →
  ∃ r:Int,0≤r∧f23.l1 (n+1) m n1 l2 ss.length (AG ss) a H.length (GY H) (H.length:Int) (i:Int)=some r:=by
 intro j
 induction j with
 | zero =>
   intro i m a h0 _ hi hm
   obtain ⟨m,rfl⟩:=zc m (by omega)
   refine ⟨a,h0,?_⟩
   rw[f23.l1,A8 (by omega)];rfl
 | succ j ih =>
   intro i m a h0 h1 hi hm
   obtain ⟨m,rfl⟩:=zc m (by omega)
   have h:i<ss.length:=by omega
   have hh:i<H.length:=by omega
   have hc:=hx _ (E4 h)
   have w1:IntKind.i64.wrap ((256:Int) * ((Ai ss i).es.length:Int))=256 * ((Ai ss i).es.length:Int):=by rw[BD] <;>omega
   have w:IntKind.i64.wrap (a+256 * ((Ai ss i).es.length:Int))=a+256 * ((Ai ss i).es.length:Int):=by rw[BD] <;>omega
   obtain ⟨r,r0,e⟩:=ih (i+1) m (a+256 * ((Ai ss i).es.length:Int)) (by omega) (by omega) (by omega) (by omega)
   obtain ⟨r',r0',e'⟩:=ih (i+1) m a (by omega) (by omega) (by omega) (by omega)
   rw[f23.l1,Bf hh,A1 hh,A1 h,zT,H4 hh,Jo,Rl h]
   simp only[AV,zA,Ay,bM h,MW n,AJ,w1,w,AZ (show i<9223372036854775807 by omega),e,e']
   cases H.getD i false
   ·exact ⟨r',r0',rfl⟩
   ·exact ⟨r,r0,rfl⟩
theorem Y6 (n:Nat) (hn:500<n) (cl:List BM) (ss:List Aq) (h1:DU cl ss=true):∃ r:Int,0≤r∧f23 (n+7) cl.length (AH cl) ss.length (AG ss)=some (r,true):=by
 have hok:=J2 h1
 have hn8:=hok.n
 have hc12:=hok.c
 have v:=J9 n cl ss (by omega)
 obtain ⟨a,a0,a1,e1⟩:=Xy (n+5) cl.length (AH cl) ss.length (AG ss) cl (by omega) (fun c hc=>by have:=(hok.k c hc).2.2;omega) cl.length 0 (n+6) 0 (by omega) (by omega) (by omega) (by omega)
 have e1:f23.l0 (n+6) (n+6) cl.length (AH cl) ss.length (AG ss) 0 cl.length (AH cl) (cl.length:Int) 0=_:=e1
 have e2:=U8 (n+2) cl.length (AH cl) ss (by omega) (by omega)
 obtain ⟨r,r0,e3⟩:=YM (n+5) cl.length (AH cl) ss (by omega) (fun s hs=>((aq hok) s hs).1) (CZ ss) (DW ss) ss.length 0 (n+6) a a0 (by omega) (by omega) (by omega)
 rw[DW] at e3
 have e3:f23.l1 (n+6) (n+6) cl.length (AH cl) ss.length (AG ss) a ss.length (GY (CZ ss)) (ss.length:Int) 0=_:=e3
 refine ⟨r,r0,?_⟩
 rw[f23,v]
 simp only[AJ,h1,Bool.not_true,Af,e1,e2,e3]
theorem Y1 (n:Nat) (t:Int) (n2:Nat) (l3:List T) (n4:Nat) (l5:List T) (n8:Nat) (l9:List T) (n10:Nat) (l11:List T) (n12:Nat) (l13:List T) (b14:Bool) (cs:List BM) (hl:cs.length≤1000):∀ (j i m a:Nat),i+j=cs.length→a≤i→j<m →
  f5.l0 n m t n2 l3 n4 l5 cs.length (AH cs) n8 l9 n10 l11 n12 l13 b14 (a:Int) (cs.length:Int) (i:Int)=some (t,n2,l3,n4,l5,cs.length,AH cs,n8,l9,n10,l11,n12,l13,b14,((a+(cs.drop i).countP (fun c=>c.kind==t):Nat):Int)):=by
 intro j
 induction j with
 | zero =>
   intro i m a hi ha hm
   obtain ⟨m,rfl⟩:=zc m (by omega)
   rw[f5.l0,A8 (by omega),drop_eq_nil_of_le (by omega)];rfl
 | succ j ih =>
   intro i m a hi ha hm
   obtain ⟨m,rfl⟩:=zc m (by omega)
   have h:i<cs.length:=by omega
   have ok0:AI [.int .i64] (AH cs) (i * 3+0)=true:=by
    have h0:=GF (c:=0) (by decide) cs i h
    simp only[EN,List.getElem?_cons_zero] at h0
    rw[Nat.add_zero] at h0
    simp[AI,h0,MY]
   rw[f5.l0,Bf h,A1 h,zT,ok0,kE h,Dl h,List.countP_cons]
   simp only[AV,Ay,AZ (show i<9223372036854775807 by omega),AZ (show a<9223372036854775807 by omega)]
   generalize hX:(cs.drop (i+1)).countP (fun c=>c.kind==t)=X at *
   have e1:=ih (i+1) m a (by omega) (by omega) (by omega)
   have e2:=ih (i+1) m (a+1) (by omega) (by omega) (by omega)
   rw[hX] at e1 e2
   cases hk:(Cg cs i).kind==t
   ·rw[Af,e1]
    rfl
   ·rw[AV,e2,show a+1+X=a+(X+1) by omega]
    rfl
theorem cU (es:List Ef) (cl:List BM) (t k:Nat):(E8 es cl t k).countP (fun c=>c.kind==(t:Int))=1:=by
 unfold E8
 rw[List.countP_append]
 have h0:(cl.filter (Fc (t:Int))).countP (fun c=>c.kind==(t:Int))=0:=by
  rw[List.countP_eq_zero]
  intro c hc
  have:=(mem_filter.1 hc).2
  simpa [Fc] using this
 rw[h0]
 simp
theorem YG {cl:List BM} {ss:List Aq} (h:Wg cl ss):∃ E,KM E ss:=by
 have:∀ i,∃ es:List Ef,i<ss.length→CL es=(Ai ss i).es∧(∀ e∈es,e.Ok)∧es.length≤8:=by
  intro i
  by_cases hi:i<ss.length
  ·obtain ⟨⟨es,h1⟩,-⟩:=h.s _ (E4 hi)
   exact ⟨es,fun _=>h1⟩
  ·exact ⟨[],fun h=>absurd h hi⟩
 exact ⟨fun i=>Classical.choose (this i),fun i hi=>Classical.choose_spec (this i) hi⟩
theorem jc (n:Nat) (hn:1600<n) (cs:List Int) (hc:∀ b∈cs,JS .u8 b) (ms:List Int) (hm:∀ b∈ms,JS .u8 b):f5 (n+300) cs.length (its .u8 cs) ms.length (its .u8 ms)=some true:=by
 rw[f5,af (n+298)]
 cases hlong:decide (1048576<cs.length∨1048576<ms.length)
 case true=>rfl
 obtain ⟨cl,ss,hD,e1⟩:=cZ (n+287) (O7 hc) (by omega)
 have e1:f19 (n+299) cs.length (its .u8 cs)=_:=e1
 have hs:=VR hD
 have hsm:=Ug hD
 have hok:=J2 hs
 have hn1:=hok.n
 have hc12:=hok.c
 obtain ⟨E,hE⟩:=YG hD
 obtain ⟨k,hk,e2⟩:=ZK (n+298) (O7 hm) (i:=0) (k:=24) (by omega) (by omega) (by omega)
 obtain ⟨k,rfl⟩:=Int.eq_ofNat_of_zero_le hk.1
 have hk24:k≤256:=by omega
 obtain ⟨t,ht,e3⟩:=ZK (n+298) (O7 hm) (i:=1) (k:=(ss.length:Int)) (by omega) (by omega) (by omega)
 obtain ⟨t,rfl⟩:=Int.eq_ofNat_of_zero_le ht.1
 have htn:t<ss.length:=by omega
 have b1:=Pj (n+99) (by omega) cl ss hs E hE k hk24
 have b1:f21 (n+299) cl.length (AH cl) ss.length (AG ss) (k:Int)=_:=b1
 obtain ⟨f1,f2,f3⟩:=hE t htn
 obtain ⟨z1,z2⟩:=US (n+99) (by omega) cl ss hs hsm t k htn hk24 (E t) f1 f2 f3
 have z1:f15 (n+299) cl.length (AH cl) ss.length (AG ss) (t:Int) (k:Int)=_:=z1
 have z2:f16 (n+299) cl.length (AH cl) ss.length (AG ss) (t:Int) (k:Int)=_:=z2
 have c1:=YI (n+99) (by omega) cl ss fun _=>hsm
 rw[if_pos hs] at c1
 have c1:f22 (n+299) cl.length (AH cl) ss.length (AG ss)=_:=c1
 have hcs:=Rg hok
 have hcE:=Yz hok hE
 have b2:=Pj (n+99) (by omega) (Bx cl ss) (CX cl ss) hcs _ hcE k hk24
 have hinv:=Pv hok _ (Nat.le_refl _)
 rw[hinv.len,← Ze hok hE k hk24] at b2
 have hl:=hinv.len
 have hpl:=hinv.pl
 have b2:f21 (n+299) (Bx cl ss).length (AH (Bx cl ss)) ss.length (AG (CX cl ss)) (k:Int)=_:=b2
 rw[hl] at c1
 obtain ⟨x,x0,g1⟩:=Y6 (n+292) (by omega) cl ss hs
 have g1:f23 (n+299) cl.length (AH cl) ss.length (AG ss)=_:=g1
 obtain ⟨y,y0,g2⟩:=Y6 (n+292) (by omega) (Bx cl ss) (CX cl ss) hcs
 rw[hl] at g2
 have g2:f23 (n+299) (Bx cl ss).length (AH (Bx cl ss)) ss.length (AG (CX cl ss))=_:=g2
 obtain ⟨L,hL⟩:∃ L,L=(Hl k (CB E cl ss k ss.length)).1:=⟨_,rfl⟩
 obtain ⟨R,hR⟩:∃ R,R=(Hl k (CB E cl ss k ss.length)).2:=⟨_,rfl⟩
 obtain ⟨ml,mr⟩:=Tl k (CB E cl ss k ss.length)
 have hw:(∀ x∈(Hl k (CB E cl ss k ss.length)).1,BX x)∧∀ x∈(Hl k (CB E cl ss k ss.length)).2,BX x:=by
  have hz:∀ x∈List.replicate k 0,BX x:=FV k
  obtain ⟨-,-,a,b⟩:=JA k ((CB E cl ss k ss.length).filter (hf (GH (CB E cl ss k ss.length)))) (bE k) hz hz
  exact ⟨a,b⟩
 have hfm:DU (E8 (E t) cl t k) (FL ss t)=true→Hl k (CB (Tm E t) (E8 (E t) cl t k) (FL ss t) k ss.length)=Hl k (CB E cl ss k ss.length):=fun _=>(cX hok hE k htn).symm
 rw[← hL] at b1 b2 ml hw
 rw[← hR] at b1 b2 mr hw
 have sL:=T3 (n+294) L L hw.1 hw.1 (by omega) (by omega)
 have sR:=T3 (n+294) R R hw.2 hw.2 (by omega) (by omega)
 rw[decide_eq_true rfl,ml] at sL
 rw[decide_eq_true rfl,mr] at sR
 have sL:f24 (n+299) k (AL .f32 L) k (AL .f32 L)=some true:=sL
 have sR:f24 (n+299) k (AL .f32 R) k (AL .f32 R)=some true:=sR
 have hgt:decide (((Bx cl ss).length:Int)>(ss.length:Int))=false:=decide_eq_false (by omega)
 by_cases hv:DU (E8 (E t) cl t k) (FL ss t)=true
 case neg =>
  rw[if_neg hv] at z1 z2
  simp only[Af,AJ,e1,e2,e3,b1,z1,z2,c1,b2,g1,g2,Bool.not_true,beq_self_eq_true,sL,sR,hgt,decide_eq_false (show ¬ y<0 by omega),decide_eq_false (show ¬ x<0 by omega),Bool.not_false,AV]
 case pos =>
  rw[if_pos hv] at z1 z2
  have hSl:(FL ss t).length=ss.length:=by unfold FL;rw[length_set]
  have b3:=Pj (n+99) (by omega) (E8 (E t) cl t k) (FL ss t) hv _ (bO hE t) k hk24
  rw[hSl,hfm hv,← hL,← hR] at b3
  have b3:f21 (n+299) (E8 (E t) cl t k).length (AH (E8 (E t) cl t k)) ss.length (AG (FL ss t)) (k:Int)=_:=b3
  rw[hSl] at z1 z2
  have hfc:=(J2 hv).c
  have o:=Y1 (n+299) (t:Int) k (AL .f32 L) k (AL .f32 R) ss.length (AG (FL ss t)) k (AL .f32 L) k (AL .f32 R) true (E8 (E t) cl t k) (by omega) (E8 (E t) cl t k).length 0 (n+299) 0 (by omega) (by omega) (by omega)
  rw[drop_zero,cU] at o
  have o:f5.l0 (n+299) (n+299) (t:Int) k (AL .f32 L) k (AL .f32 R) (E8 (E t) cl t k).length (AH (E8 (E t) cl t k)) ss.length (AG (FL ss t)) k (AL .f32 L) k (AL .f32 R) true 0 ((E8 (E t) cl t k).length:Int) 0=some ((t:Int),k,AL .f32 L,k,AL .f32 R,(E8 (E t) cl t k).length,AH (E8 (E t) cl t k),ss.length,AG (FL ss t),k,AL .f32 L,k,AL .f32 R,true,1):=o
  have htS:t<(FL ss t).length:=by rw[hSl];exact htn
  have hes:(Ai (FL ss t) t).es=[]:=by rw[Ri htn,if_pos rfl];rfl
  have q1:AI [.lst] (AG (FL ss t)) (t * 5+0)=true:=dN htS
  have q2:GZ (AG (FL ss t)) (t * 5+0)=0:=by rw[bM htS,hes];rfl
  simp only[Af,AJ,e1,e2,e3,b1,z1,z2,c1,b2,g1,g2,Bool.not_true,beq_self_eq_true,sL,sR,hgt,decide_eq_false (show ¬ y<0 by omega),decide_eq_false (show ¬ x<0 by omega),b3,o,AV,A1 htn,Ay,zT,q1,q2]
  rfl
theorem fk (cs:List Int) (hc:∀ b∈cs,JS .u8 b) (lc:cs.length≤maxLen) (ms:List Int) (hm:∀ b∈ms,JS .u8 b) (lm:ms.length≤maxLen):∃ n,f5 n cs.length (its .u8 cs) ms.length (its .u8 ms)=some true :=
 ⟨2300,jc 2000 (by omega) cs hc ms hm⟩
theorem law5:∀ args,Ew E Tryz.f5.params.toList args→∃ N os,Ak E N 5 args=some ⟨[⟨false,[.leaf],[.bool true]⟩],os⟩:=by
 intro args h0
 have hp:Tryz.f5.params.toList=[42,42]:=by kernel_rfl
 rw[hp] at h0
 obtain ⟨ts0,r0,rfl,hw0,h1⟩:=h0.cons_inv (d:=⟨false,1,24,[.sl .own [.leaf]],[.lst 0 []],.slc 5⟩) (by kernel_rfl)
 obtain ⟨n0,cs0,rfl,gl0,hs0⟩:=hw0.slc_inv (e:=5) (d:=⟨false,1,24,[.sl .own [.leaf]],[.lst 0 []],.slc 5⟩) (by kernel_rfl) rfl
 obtain ⟨a0,rfl,rfl,g0⟩:=hs0.ints (k:=.u8) (d:=⟨false,1,1,[.leaf],[.int .u8 0],.int .u8⟩) (by kernel_rfl) rfl
 obtain ⟨ts1,r1,rfl,hw1,h2⟩:=h1.cons_inv (d:=⟨false,1,24,[.sl .own [.leaf]],[.lst 0 []],.slc 5⟩) (by kernel_rfl)
 obtain ⟨n1,cs1,rfl,gl1,hs1⟩:=hw1.slc_inv (e:=5) (d:=⟨false,1,24,[.sl .own [.leaf]],[.lst 0 []],.slc 5⟩) (by kernel_rfl) rfl
 obtain ⟨a1,rfl,rfl,g1⟩:=hs1.ints (k:=.u8) (d:=⟨false,1,1,[.leaf],[.int .u8 0],.int .u8⟩) (by kernel_rfl) rfl
 obtain rfl:=h2.nil_inv
 obtain ⟨N,hN⟩:=fk a0 g0 gl0 a1 g1 gl1
 exact ⟨N,_,f5.ok N (a0.length,its .u8 a0,a1.length,its .u8 a1) true hN⟩
end Go.Proofs.YtdobhipbgpiceaaGreat.D
end
section
namespace Go.Proofs.YtdobhipbgpiceaaGreat.fnFrozen
open Go Go.ChangeShapes Go.WideShapes Go.ChangeAt Go.RowKit Go.Desk
set_option linter.unusedVariables false
theorem own:ownKnob Tryz.prog.godebug=none:=by kernel_rfl
theorem laidOut:laidOutB Tryz.prog=true:=by kernel_rfl
set_option maxRecDepth 100000 in
theorem lifted (os:Os) (started:os.Started) (H:Type) (enc:TypeId × Value→H) :
  ReturnsInHanded {} Tryz.checked os 5 .any (Rows.fnFrozenSpec.pre6 enc Tryz.prog Tryz.f5 Rows.fnFrozenRow.domain false) (Rows.fnFrozenSpec.post enc Tryz.prog Tryz.f5 false true false false):=by
 refine returnsInHanded_of_change (C:=Tryz.checked) own started (by kernel_rfl) Tryz.func5
  (ChangeSpec.witness6 (enc:=enc) (C:=Tryz.checked) false ⟨#[],#[.slice none 0 0,.slice none 0 0],[]⟩ 8 (by kernel_rfl) (by kernel_rfl) (by kernel_rfl) (by kernel_rfl)) ?_
 intro W base args ds gs before hval hW hcnd _
 exact law_contract (c:=D.c5) Tryz.checked.mixed D.tysOk D.fnOk Tryz.func5 (by kernel_rfl) (by kernel_rfl) (by kernel_rfl) Tryz.underlying4 rfl
  (fun ds h=>by
    rw[show Tryz.f5.params.toList.length=2 by kernel_rfl] at h
    match ds,h with
    | [_,_],_=>rfl)
  laidOut (N:=8) (by kernel_rfl) (by kernel_rfl) D.law5 hval hW
theorem over:Rows.fnFrozenRow.holds Tryz.pinned (OpenSpec.ofChange Rows.fnFrozenSpec) :=
 OpenClaim.holds_of_wide 5 Tryz.f5 rfl rfl rfl rfl rfl rfl rfl ⟨rfl,rfl,rfl,rfl,rfl⟩ rfl rfl rfl rfl rfl (by kernel_rfl) Tryz.func5 (by kernel_rfl)
  (of_decide_eq_true (by kernel_rfl)) (by unfold Func.isWrapper;first | (rw[if_pos (by decide +kernel)];kernel_rfl) | (rw[if_neg (by decide +kernel)];exact ⟨rfl,rfl⟩))
  (fun os started H enc _=>lifted os started H enc)
theorem proved:Rows.FnFrozenSaid:=over
#print axioms proved
end Go.Proofs.YtdobhipbgpiceaaGreat.fnFrozen
namespace Go.Proofs.YtdobhipbgpiceaaGreat
theorem fnFrozen_holds:Rows.FnFrozenSaid:=fnFrozen.proved
end Go.Proofs.YtdobhipbgpiceaaGreat
end
