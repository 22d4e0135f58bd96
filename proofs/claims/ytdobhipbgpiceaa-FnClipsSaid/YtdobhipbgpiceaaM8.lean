/- FnClips holds: for every input the law returns true, and its arguments read as before. -/
import Derived.Test.YtdobhipbgpiceaaChecked
import Derived.KernelRfl
import Derived.Test.YtdobhipbgpiceaaRows
import Derived.WalkKit
import Derived.ProofKit
import Derived.OpenShut
import Derived.ShutString
import Derived.ChangeOld
import Derived.Below
import Derived.SizedLaws
import Derived.Test.YtdobhipbgpiceaaKernC
import Derived.Test.YtdobhipbgpiceaaM8a
set_option linter.all false
set_option linter.unusedVariables false
section
namespace Go.Proofs.Ytdobhipbgpiceaa.D
open Go Go.Desk
set_option linter.unusedVariables false
theorem i_chainB_loop (n:Nat) (N:Nat) (ts:List T) (cs:List Eff) (hl:cs.length≤100):∀ (j i m:Nat),i+j=cs.length→j<m →
  f23.l0 (n+4) m N ts cs.length (effs cs) (cs.length:Int) (i:Int)=some (if (cs.drop i).all effB then Sum.inr () else Sum.inl false):=by
 intro j
 induction j with
 | zero =>
   intro i m hi hm
   obtain ⟨m,rfl⟩:∃ k,m=k+1:=⟨m - 1,by omega⟩
   rw[f23.l0,nlt_dec (by omega),List.drop_eq_nil_of_le (by omega)];rfl
 | succ j ih =>
   intro i m hi hm
   obtain ⟨m,rfl⟩:∃ k,m=k+1:=⟨m - 1,by omega⟩
   have h:i<cs.length:=by omega
   rw[f23.l0,lt_dec h,in_dec h,Int.toNat_natCast,okE h,all_drop h]
   simp only[br_t,Bool.and_self,gd_t,kE h,gE h,nE h,lE h,i_effB n (eAt cs i),bd_s,wrap_succ (show i<9223372036854775807 by omega)]
   cases effB (eAt cs i)
   ·rfl
   ·simp only[Bool.not_true,br_f,Bool.true_and]
    exact ih (i+1) m (by omega) (by omega)
theorem i_chainB (n:Nat) (cs:List Eff) (hn:100<n):f23 (n+5) cs.length (effs cs)=some (chainB cs):=by
 rw[f23]
 unfold chainB
 by_cases h:cs.length≤8
 ·have e:=i_chainB_loop n cs.length (effs cs) cs (by omega) cs.length 0 (n+4) (by omega) (by omega)
  have e:f23.l0 (n+4) (n+4) cs.length (effs cs) cs.length (effs cs) (cs.length:Int) 0=_:=e
  rw[decide_eq_false (by omega),e,decide_eq_true h,List.drop_zero]
  cases cs.all effB <;>rfl
 ·rw[decide_eq_true (by omega),decide_eq_false h];rfl
theorem s_chainB_loop (n:Nat) (cs:List Eff) (hl:cs.length≤8):∀ (j i m:Nat),i+j=cs.length→j<m →
  f146.l0 (n+4) m cs.length (effs cs) (i:Int)=some (if (cs.drop i).all effB then Sum.inr (cs.length,effs cs) else Sum.inl false):=by
 intro j
 induction j with
 | zero =>
   intro i m hi hm
   obtain ⟨m,rfl⟩:∃ k,m=k+1:=⟨m - 1,by omega⟩
   rw[f146.l0,nlt_dec (by omega),List.drop_eq_nil_of_le (by omega)];rfl
 | succ j ih =>
   intro i m hi hm
   obtain ⟨m,rfl⟩:∃ k,m=k+1:=⟨m - 1,by omega⟩
   have h:i<cs.length:=by omega
   rw[f146.l0,lt_dec h,in_dec h,Int.toNat_natCast,okE h,all_drop h,decide_eq_true (show (cs.length:Int)≤8 by omega)]
   simp only[br_t,Bool.and_self,gd_t,kE h,gE h,nE h,lE h,s_effB n (eAt cs i),bd_s,wrap_succ (show i<9223372036854775807 by omega)]
   cases effB (eAt cs i)
   ·rfl
   ·simp only[Bool.not_true,br_f,Bool.true_and]
    exact ih (i+1) m (by omega) (by omega)
theorem s_chainB (n:Nat) (cs:List Eff) (hn:100<n):f146 (n+5) cs.length (effs cs)=some (chainB cs):=by
 rw[f146]
 unfold chainB
 by_cases h:cs.length≤8
 ·have e:=s_chainB_loop n cs h cs.length 0 (n+4) (by omega) (by omega)
  have e:f146.l0 (n+4) (n+4) cs.length (effs cs) 0=_:=e
  rw[e,decide_eq_true h,List.drop_zero]
  cases cs.all effB
  ·rfl
  ·simp only[if_true,bd_s,sm_r,Bool.true_and,decide_eq_true (show (cs.length:Int)≤8 by omega)]
 ·have e:f146.l0 (n+4) (n+4) cs.length (effs cs) 0=some (Sum.inr (cs.length,effs cs)):=by
   rw[show n+4=(n+3)+1 from rfl,f146.l0,decide_eq_true (show (0:Int)<(cs.length:Int) by omega),decide_eq_false (show ¬ (cs.length:Int)≤8 by omega)]
   rfl
  rw[e,decide_eq_false h]
  simp only[bd_s,sm_r,Bool.false_and,decide_eq_false (show ¬ (cs.length:Int)≤8 by omega)]
structure Strp where
 es:List Eff
 tn:Int
 pan:Nat
 mute:Bool
 solo:Bool
def stC (s:Strp):List T:=[.lst s.es.length (effs s.es),.int .i64 s.tn,.flt .f32 s.pan,.bool s.mute,.bool s.solo]
def strps (ss:List Strp):List T:=ss.flatMap stC
def sAt5 (ss:List Strp) (i:Nat):Strp:=ss.getD i ⟨[],0,0,false,false⟩
theorem st_get {c:Nat} (hc:c<5):∀ (ts:List Strp) (i:Nat),i<ts.length→(strps ts)[i * 5+c]?=(stC (sAt5 ts i))[c]?
 | [],i,h=>by simp at h
 | t::ts,0,_=>by
   show (stC t++strps ts)[0 * 5+c]?=_
   rw[List.getElem?_append_left (by simp[stC];omega),Nat.zero_mul,Nat.zero_add];rfl
 | t::ts,i+1,h=>by
   show (stC t++strps ts)[(i+1) * 5+c]?=_
   rw[List.getElem?_append_right (by simp[stC];omega),show (i+1) * 5+c - (stC t).length=i * 5+c by simp[stC];omega,st_get hc ts i (by simpa using h)]
   rfl
section
variable {ts:List Strp} {i:Nat} (h:i<ts.length)
include h
theorem okS5:okAt [.lst,.int .i64,.flt .f32,.bool,.bool] (strps ts) (i * 5+0)=true:=by
 have h0:=st_get (c:=0) (by decide) ts i h
 have h1:=st_get (c:=1) (by decide) ts i h
 have h2:=st_get (c:=2) (by decide) ts i h
 have h3:=st_get (c:=3) (by decide) ts i h
 have h4:=st_get (c:=4) (by decide) ts i h
 simp only[stC,List.getElem?_cons_zero,List.getElem?_cons_succ] at h0 h1 h2 h3 h4
 rw[Nat.add_zero] at h0
 simp[okAt,Nat.add_assoc,h0,h1,h2,h3,h4,isCK]
theorem nS5:nAt (strps ts) (i * 5+0)=(sAt5 ts i).es.length:=by unfold nAt;rw[st_get (c:=0) (by decide) ts i h];rfl
theorem lS5:lAt (strps ts) (i * 5+0)=effs (sAt5 ts i).es:=by unfold lAt;rw[st_get (c:=0) (by decide) ts i h];rfl
theorem tS5:iAt (strps ts) (i * 5+0+1)=(sAt5 ts i).tn:=by unfold iAt;rw[show i * 5+0+1=i * 5+1 from rfl,st_get (c:=1) (by decide) ts i h];rfl
theorem pS5:fAt (strps ts) (i * 5+0+1+1)=(sAt5 ts i).pan:=by unfold fAt;rw[show i * 5+0+1+1=i * 5+2 from rfl,st_get (c:=2) (by decide) ts i h];rfl
theorem mS5:bAt (strps ts) (i * 5+0+1+1+1)=(sAt5 ts i).mute:=by unfold bAt;rw[show i * 5+0+1+1+1=i * 5+3 from rfl,st_get (c:=3) (by decide) ts i h];rfl
theorem oS5:bAt (strps ts) (i * 5+0+1+1+1+1)=(sAt5 ts i).solo:=by unfold bAt;rw[show i * 5+0+1+1+1+1=i * 5+4 from rfl,st_get (c:=4) (by decide) ts i h];rfl
theorem st_drop:ts.drop i=sAt5 ts i::ts.drop (i+1):=by
 rw[List.drop_eq_getElem_cons h]
 simp[sAt5,List.getD,h]
theorem sAt5_mem:sAt5 ts i∈ts:=by
 have:sAt5 ts i=ts[i]:=by simp[sAt5,List.getD,h]
 rw[this];exact List.getElem_mem h
end
def panB (x:Nat):Bool:=fge .f32 x 0&&fle .f32 x 1065353216
def stB (s:Strp):Bool:=chainB s.es&&(decide (-2000≤s.tn∧s.tn≤2000)&&panB s.pan)
def clB (n:Nat) (c:Eff):Bool:=decide (0≤c.kind∧c.kind≤(n:Int) - 1)&&(decide (0≤c.len∧c.len≤256)&&decide (c.nums.length≤256))
def sessB (cl:List Eff) (ss:List Strp):Bool:=decide (1≤ss.length∧ss.length≤8)&&(decide (cl.length≤12)&&(ss.all stB&&cl.all (clB ss.length)))
theorem i_panB (n x:Nat):f144 (n+1) x=some (panB x):=by
 rw[f144];unfold panB;cases fge .f32 x 0 <;>rfl
theorem s_panB (n x:Nat):f178 (n+1) x=some (panB x):=by
 rw[f178];unfold panB;cases fge .f32 x 0 <;>rfl
theorem i_tenths (n:Nat) (t:Int):f143 (n+2) t=some (decide (-2000≤t∧t≤2000)):=by rw[f143,i_in];rfl
theorem i_count (n:Nat) (t:Int):f81 (n+2) t=some (decide (0≤t∧t≤256)):=by rw[f81,i_in];rfl
theorem i_index (n:Nat) (t:Int) (k:Nat) (hk:k≤1099511627776):f83 (n+2) t (k:Int)=some (decide (0≤t∧t≤(k:Int) - 1)):=by
 rw[f83,show IntKind.i64.wrap ((k:Int) - 1)=(k:Int) - 1 by rw[wrap64] <;>omega,i_in];rfl
theorem i_nodes (n:Nat) (t:Int):f89 (n+2) t=some (decide (1≤t∧t≤8)):=by rw[f89,i_in];rfl
theorem st_all {ss:List Strp} {i:Nat} (h:i<ss.length):(ss.drop i).all stB=(stB (sAt5 ss i)&&(ss.drop (i+1)).all stB):=by
 rw[st_drop h,List.all_cons]
theorem cl_all {cs:List Eff} {i n:Nat} (h:i<cs.length):(cs.drop i).all (clB n)=(clB n (eAt cs i)&&(cs.drop (i+1)).all (clB n)):=by
 rw[eff_drop h,List.all_cons]
theorem i_st_loop (n:Nat) (hn:100<n) (N:Nat) (ts:List T) (M:Nat) (us:List T) (ss:List Strp) (hl:ss.length≤100):∀ (j i m:Nat),i+j=ss.length→j<m →
  f101.l0 (n+5) m N ts M us ss.length (strps ss) (ss.length:Int) (i:Int)=some (if (ss.drop i).all stB then Sum.inr (N,ts,M,us) else Sum.inl false):=by
 intro j
 induction j with
 | zero =>
   intro i m hi hm
   obtain ⟨m,rfl⟩:∃ k,m=k+1:=⟨m - 1,by omega⟩
   rw[f101.l0,nlt_dec (by omega),List.drop_eq_nil_of_le (by omega)];rfl
 | succ j ih =>
   intro i m hi hm
   obtain ⟨m,rfl⟩:∃ k,m=k+1:=⟨m - 1,by omega⟩
   have h:i<ss.length:=by omega
   rw[f101.l0,lt_dec h,in_dec h,Int.toNat_natCast,okS5 h,st_all h]
   simp only[br_t,Bool.and_self,gd_t,nS5 h,lS5 h,tS5 h,pS5 h,i_chainB n (sAt5 ss i).es hn,i_tenths (n+3),i_panB (n+4),bd_s,wrap_succ (show i<9223372036854775807 by omega)]
   unfold stB
   cases chainB (sAt5 ss i).es
   ·rfl
   ·cases decide (-2000≤(sAt5 ss i).tn∧(sAt5 ss i).tn≤2000)
    ·rfl
    ·cases panB (sAt5 ss i).pan
     ·rfl
     ·simp only[Bool.not_true,br_f,Bool.true_and]
      exact ih (i+1) m (by omega) (by omega)
theorem i_cl_loop (n:Nat) (N:Nat) (ts:List T) (M:Nat) (us:List T) (hM:M≤1000) (cs:List Eff) (hl:cs.length≤100):∀ (j i m:Nat),i+j=cs.length→j<m →
  f101.l1 (n+2) m N ts M us cs.length (effs cs) (cs.length:Int) (i:Int)=some (if (cs.drop i).all (clB M) then Sum.inr () else Sum.inl false):=by
 intro j
 induction j with
 | zero =>
   intro i m hi hm
   obtain ⟨m,rfl⟩:∃ k,m=k+1:=⟨m - 1,by omega⟩
   rw[f101.l1,nlt_dec (by omega),List.drop_eq_nil_of_le (by omega)];rfl
 | succ j ih =>
   intro i m hi hm
   obtain ⟨m,rfl⟩:∃ k,m=k+1:=⟨m - 1,by omega⟩
   have h:i<cs.length:=by omega
   have e3:decide (((eAt cs i).nums.length:Int)≤256)=decide ((eAt cs i).nums.length≤256):=by rw[decide_eq_decide];omega
   rw[f101.l1,lt_dec h,in_dec h,Int.toNat_natCast,okE h,cl_all h]
   simp only[br_t,Bool.and_self,gd_t,kE h,gE h,nE h,lE h,i_index n (eAt cs i).kind M (by omega),i_count n,i_few,e3,bd_s,wrap_succ (show i<9223372036854775807 by omega)]
   unfold clB
   cases decide (0≤(eAt cs i).kind∧(eAt cs i).kind≤(M:Int) - 1)
   ·rfl
   ·cases decide (0≤(eAt cs i).len∧(eAt cs i).len≤256)
    ·rfl
    ·cases decide ((eAt cs i).nums.length≤256)
     ·rfl
     ·simp only[Bool.not_true,br_f,Bool.true_and]
      exact ih (i+1) m (by omega) (by omega)
theorem i_sessB (n:Nat) (cl:List Eff) (ss:List Strp) (hn:200<n):f101 (n+6) cl.length (effs cl) ss.length (strps ss)=some (sessB cl ss):=by
 rw[f101,i_sized (n+4)]
 simp only[bd_s,i_nodes (n+3)]
 unfold sessB
 by_cases h1:1≤ss.length∧ss.length≤8
 ·rw[decide_eq_true h1,decide_eq_true (show (1:Int)≤(ss.length:Int)∧(ss.length:Int)≤8 by omega)]
  by_cases h2:cl.length≤12
  ·rw[decide_eq_true h2,decide_eq_false (show ¬ (cl.length:Int)>12 by omega)]
   have e1:=i_st_loop n (by omega) cl.length (effs cl) ss.length (strps ss) ss (by omega) ss.length 0 (n+5) (by omega) (by omega)
   have e1:f101.l0 (n+5) (n+5) cl.length (effs cl) ss.length (strps ss) ss.length (strps ss) (ss.length:Int) 0=_:=e1
   have e2:=i_cl_loop (n+3) cl.length (effs cl) ss.length (strps ss) (by omega) cl (by omega) cl.length 0 (n+5) (by omega) (by omega)
   have e2:f101.l1 (n+5) (n+5) cl.length (effs cl) ss.length (strps ss) cl.length (effs cl) (cl.length:Int) 0=_:=e2
   simp only[Bool.not_true,br_f,e1,List.drop_zero,Bool.true_and]
   cases ss.all stB
   ·rfl
   ·simp only[if_true,bd_s,sm_r,e2,List.drop_zero,Bool.true_and]
    cases cl.all (clB ss.length) <;>rfl
  ·rw[decide_eq_false h2,decide_eq_true (show (cl.length:Int)>12 by omega)];rfl
 ·rw[decide_eq_false h1,decide_eq_false (show ¬ ((1:Int)≤(ss.length:Int)∧(ss.length:Int)≤8) by omega)];rfl
theorem s_strip1 (n:Nat) (a:Nat) (b:List T) (c:Int) (d:Nat) (e f:Bool) (g:Nat) (h:List T):∃ x y,f145 (n+1) a b c d e f g h=some (g,h,c,d,e,f,x,y):=by
 rw[f145];exact ⟨_,_,rfl⟩
theorem s_tracks1 (n:Nat) (hn:10<n) (c:Int) (d:Nat) (e f:Bool):f147 (n+2) 1 (setN (reps 1 [(T.lst 0 []),(T.int .i64 (0:Int)),(T.flt .f32 0),(T.bool false),(T.bool false)]) 0 [(T.lst 0 (reps 0 [(T.flt .f32 0)])),(T.int .i64 c),(T.flt .f32 d),(T.bool e),(T.bool f)])=some (decide (-2000≤c∧c≤2000)&&panB d):=by
 obtain ⟨n,rfl⟩:∃ k,n=k+2:=⟨n - 2,by omega⟩
 have hs:setN (reps 1 [(T.lst 0 []),(T.int .i64 (0:Int)),(T.flt .f32 0),(T.bool false),(T.bool false)]) 0 [(T.lst 0 (reps 0 [(T.flt .f32 0)])),(T.int .i64 c),(T.flt .f32 d),(T.bool e),(T.bool f)]=[(T.lst 0 []),(T.int .i64 c),(T.flt .f32 d),(T.bool e),(T.bool f)]:=rfl
 have l1:f147.l0 (n+2+1) (n+2+1) 1 [(T.lst 0 []),(T.int .i64 c),(T.flt .f32 d),(T.bool e),(T.bool f)] ((1:Nat):Int) 0=some (if decide (-2000≤c∧c≤2000)&&panB d then Sum.inr (1,[(T.lst 0 []),(T.int .i64 c),(T.flt .f32 d),(T.bool e),(T.bool f)]) else Sum.inl false):=by
  rw[f147.l0]
  have k0:decide ((0:Int)<((1:Nat):Int))=true:=rfl
  have k1:decide ((0:Int)≤0∧(0:Int)<((1:Nat):Int))=true:=rfl
  have k2:okAt [.lst,.int .i64,.flt .f32,.bool,.bool] [(T.lst 0 []),(T.int .i64 c),(T.flt .f32 d),(T.bool e),(T.bool f)] (Int.toNat 0 * 5+0)=true:=rfl
  have k3:nAt [(T.lst 0 []),(T.int .i64 c),(T.flt .f32 d),(T.bool e),(T.bool f)] (Int.toNat 0 * 5+0)=0:=rfl
  have k4:iAt [(T.lst 0 []),(T.int .i64 c),(T.flt .f32 d),(T.bool e),(T.bool f)] (Int.toNat 0 * 5+0+1)=c:=rfl
  have k5:fAt [(T.lst 0 []),(T.int .i64 c),(T.flt .f32 d),(T.bool e),(T.bool f)] (Int.toNat 0 * 5+0+1+1)=d:=rfl
  rw[k0,k1,k2,k3,k4,k5]
  simp only[br_t,Bool.and_self,gd_t,s_few,bd_s,s_in,s_panB]
  cases decide (-2000≤c∧c≤2000)
  ·rfl
  ·cases panB d
   ·rfl
   ·show f147.l0 (n+2+1) (n+2) 1 _ ((1:Nat):Int) 1=_
    rw[f147.l0];rfl
 rw[hs,f147,l1]
 cases decide (-2000≤c∧c≤2000)&&panB d <;>rfl
theorem s_st_loop (n:Nat) (hn:100<n) (N:Nat) (ts:List T) (i5:Int) (ss:List Strp) (hl:ss.length≤100):∀ (j i m:Nat),i+j=ss.length→j<m →
  f105.l0 (n+5) m N ts ss.length (strps ss) i5 (ss.length:Int) (i:Int)=some (if (ss.drop i).all stB then Sum.inr (N,ts,ss.length,strps ss,i5) else Sum.inl false):=by
 intro j
 induction j with
 | zero =>
   intro i m hi hm
   obtain ⟨m,rfl⟩:∃ k,m=k+1:=⟨m - 1,by omega⟩
   rw[f105.l0,nlt_dec (by omega),List.drop_eq_nil_of_le (by omega)];rfl
 | succ j ih =>
   intro i m hi hm
   obtain ⟨m,rfl⟩:∃ k,m=k+1:=⟨m - 1,by omega⟩
   have h:i<ss.length:=by omega
   rw[f105.l0,lt_dec h,in_dec h,Int.toNat_natCast,okS5 h,st_all h]
   simp only[br_t,Bool.and_self,gd_t,nS5 h,lS5 h,tS5 h,pS5 h,mS5 h,oS5 h]
   obtain ⟨x,y,e1⟩:=s_strip1 (n+4) (sAt5 ss i).es.length (effs (sAt5 ss i).es) (sAt5 ss i).tn (sAt5 ss i).pan (sAt5 ss i).mute (sAt5 ss i).solo 0 (reps 0 [(T.flt .f32 0)])
   rw[e1]
   have e2:=s_tracks1 (n+3) (by omega) (sAt5 ss i).tn (sAt5 ss i).pan (sAt5 ss i).mute (sAt5 ss i).solo
   simp only[bd_s,s_chainB n (sAt5 ss i).es hn,e2,wrap_succ (show i<9223372036854775807 by omega)]
   unfold stB
   cases chainB (sAt5 ss i).es
   ·rfl
   ·cases decide (-2000≤(sAt5 ss i).tn∧(sAt5 ss i).tn≤2000)&&panB (sAt5 ss i).pan
    ·rfl
    ·simp only[Bool.not_true,br_f,Bool.true_and]
     exact ih (i+1) m (by omega) (by omega)
theorem s_cl_loop (n:Nat) (N:Nat) (ts:List T) (M:Nat) (hM:M≤1000) (cs:List Eff) (hl:cs.length≤100):∀ (j i m:Nat),i+j=cs.length→j<m →
  f105.l1 (n+2) m cs.length (effs cs) N ts (M:Int) (cs.length:Int) (i:Int)=some (if (cs.drop i).all (clB M) then Sum.inr () else Sum.inl false):=by
 intro j
 induction j with
 | zero =>
   intro i m hi hm
   obtain ⟨m,rfl⟩:∃ k,m=k+1:=⟨m - 1,by omega⟩
   rw[f105.l1,nlt_dec (by omega),List.drop_eq_nil_of_le (by omega)];rfl
 | succ j ih =>
   intro i m hi hm
   obtain ⟨m,rfl⟩:∃ k,m=k+1:=⟨m - 1,by omega⟩
   have h:i<cs.length:=by omega
   have e3:decide (((eAt cs i).nums.length:Int)≤256)=decide ((eAt cs i).nums.length≤256):=by rw[decide_eq_decide];omega
   rw[f105.l1,lt_dec h,in_dec h,Int.toNat_natCast,okE h,cl_all h,show IntKind.i64.wrap ((M:Int) - 1)=(M:Int) - 1 by rw[wrap64] <;>omega]
   simp only[br_t,Bool.and_self,gd_t,kE h,gE h,nE h,lE h,s_in (n+1),s_few,e3,bd_s,wrap_succ (show i<9223372036854775807 by omega)]
   unfold clB
   cases decide (0≤(eAt cs i).kind∧(eAt cs i).kind≤(M:Int) - 1)
   ·rfl
   ·cases decide (0≤(eAt cs i).len∧(eAt cs i).len≤256)
    ·rfl
    ·cases decide ((eAt cs i).nums.length≤256)
     ·rfl
     ·simp only[Bool.not_true,br_f,Bool.true_and]
      exact ih (i+1) m (by omega) (by omega)
theorem s_sessB (n:Nat) (cl:List Eff) (ss:List Strp) (hn:200<n):f105 (n+6) cl.length (effs cl) ss.length (strps ss)=some (sessB cl ss):=by
 rw[f105]
 simp only[bd_s,s_in (n+4)]
 unfold sessB
 by_cases h1:1≤ss.length∧ss.length≤8
 ·rw[decide_eq_true h1,decide_eq_true (show (1:Int)≤(ss.length:Int)∧(ss.length:Int)≤8 by omega)]
  by_cases h2:cl.length≤12
  ·rw[decide_eq_true h2,decide_eq_false (show ¬ (cl.length:Int)>12 by omega)]
   have e1:=s_st_loop n (by omega) cl.length (effs cl) (ss.length:Int) ss (by omega) ss.length 0 (n+5) (by omega) (by omega)
   have e1:f105.l0 (n+5) (n+5) cl.length (effs cl) ss.length (strps ss) (ss.length:Int) (ss.length:Int) 0=_:=e1
   have e2:=s_cl_loop (n+3) ss.length (strps ss) ss.length (by omega) cl (by omega) cl.length 0 (n+5) (by omega) (by omega)
   have e2:f105.l1 (n+5) (n+5) cl.length (effs cl) ss.length (strps ss) (ss.length:Int) (cl.length:Int) 0=_:=e2
   simp only[Bool.not_true,br_f,e1,List.drop_zero,Bool.true_and]
   cases ss.all stB
   ·rfl
   ·simp only[if_true,bd_s,sm_r,e2,List.drop_zero,Bool.true_and]
    cases cl.all (clB ss.length) <;>rfl
  ·rw[decide_eq_false h2,decide_eq_true (show (cl.length:Int)>12 by omega)];rfl
 ·rw[decide_eq_false h1,decide_eq_false (show ¬ ((1:Int)≤(ss.length:Int)∧(ss.length:Int)≤8) by omega)];rfl
def addAt (p:Int) (x:Nat) (out:List Nat):List Nat:=if 0≤p∧p<(out.length:Int) then out.set p.toNat (fadd .f32 (out.getD p.toNat 0) x) else out
def addClip:Int→List Nat→List Nat→List Nat
 | _,[],out=>out
 | p,x::xs,out=>addClip (p+1) xs (addAt p x out)
def trackGo (track frm:Int):List Eff→List Nat→List Nat
 | [],out=>out
 | c::cs,out=>trackGo track frm cs (if c.kind=track then addClip (c.len - frm) c.nums out else out)
theorem addAt_length (p:Int) (x:Nat) (out:List Nat):(addAt p x out).length=out.length:=by unfold addAt;split <;>simp
theorem addClip_length:∀ (xs:List Nat) (p:Int) (out:List Nat),(addClip p xs out).length=out.length
 | [],_,_=>rfl
 | x::xs,p,out=>by rw[addClip,addClip_length xs,addAt_length]
theorem trackGo_length (track frm:Int):∀ (cs:List Eff) (out:List Nat),(trackGo track frm cs out).length=out.length
 | [],_=>rfl
 | c::cs,out=>by
   rw[trackGo,trackGo_length track frm cs]
   split
   ·rw[addClip_length]
   ·rfl
theorem addAt_w32 {p:Int} {x:Nat} {out:List Nat} (h:AllW out):AllW (addAt p x out):=by
 unfold addAt
 split
 ·intro y hy
  rcases List.mem_or_eq_of_mem_set hy with h' | rfl
  ·exact h y h'
  ·exact w32_fadd _ _
 ·exact h
theorem addClip_w32:∀ (xs:List Nat) (p:Int) (out:List Nat),AllW out→AllW (addClip p xs out)
 | [],_,_,h=>h
 | x::xs,p,out,h=>addClip_w32 xs _ _ (addAt_w32 h)
theorem trackGo_w32 (track frm:Int):∀ (cs:List Eff) (out:List Nat),AllW out→AllW (trackGo track frm cs out)
 | [],_,h=>h
 | c::cs,out,h=>by
   rw[trackGo]
   refine trackGo_w32 track frm cs _ ?_
   split
   ·exact addClip_w32 _ _ _ h
   ·exact h
theorem setN_flt {out:List Nat} {i y:Nat}:setN (fls .f32 out) i [T.flt .f32 y]=fls .f32 (out.set i y):=by rw[setN_one];simp[fls,List.map_set]
theorem i_samples_clip (n:Nat) (i1 i2:Int) (n4:Nat) (l5:List T) (n6:Nat) (l7:List T) (k:Nat) (i10:Int) (at_:Int) (n12:Nat) (l13:List T) (n14:Nat) (l15:List T) (i16 i17:Int) (hk:k≤100000) (ha : -10000000≤at_∧at_≤10000000) (hf : -10000000≤i2∧i2≤10000000) :
  ∀ (zs p out:List Nat) (m:Nat),out.length=k→p.length+zs.length<1048576→zs.length<m →
  f100.l1 (n+1) m i1 i2 (k:Int) n4 l5 n6 l7 k (fls .f32 out) i10 at_ n12 l13 n14 l15 i16 i17 (p++zs).length (fls .f32 (p++zs)) ((p++zs).length:Int) (p.length:Int) =
   some (i1,i2,(k:Int),n4,l5,n6,l7,k,fls .f32 (addClip (at_+(p.length:Int) - i2) zs out),n14,l15,i16,i17):=by
 intro zs
 induction zs with
 | nil =>
   intro p out m ho _ hm
   obtain ⟨m,rfl⟩:∃ k,m=k+1:=⟨m - 1,by simp at hm;omega⟩
   rw[f100.l1,lt_end];rfl
 | cons z zs ih =>
   intro p out m ho hp hm
   obtain ⟨m,rfl⟩:∃ k,m=k+1:=⟨m - 1,by simp at hm;omega⟩
   have hp':p.length<1048576:=by simp at hp;omega
   have w1:IntKind.i64.wrap (IntKind.i64.wrap (at_+(p.length:Int)) - i2)=at_+(p.length:Int) - i2:=by
    rw[wrap64 (x:=at_+(p.length:Int)) (by omega) (by omega),wrap64 (by omega) (by omega)]
   have w2:IntKind.i64.wrap ((k:Int) - 1)=(k:Int) - 1:=by rw[wrap64] <;>omega
   have w' :=wrap_len (z:=z) (p:=p) (show p.length<4611686018427387904 by omega)
   rw[f100.l1,lt_mid,in_mid,toNat_len,okAt_mid,fAt_mid]
   simp only[br_t,gd_t,Bool.and_self,w1,w2,i_in,bd_s,w']
   have hq:at_+((p++[z]).length:Int) - i2=at_+(p.length:Int) - i2+1:=by simp;omega
   rw[addClip]
   by_cases hc:0≤at_+(p.length:Int) - i2∧at_+(p.length:Int) - i2≤(k:Int) - 1
   ·obtain ⟨q,hq2⟩:=Int.eq_ofNat_of_zero_le hc.1
    have hqk:q<out.length:=by omega
    have step:=ih (p++[z]) (addAt (at_+(p.length:Int) - i2) z out) m (by rw[addAt_length];exact ho) (by simp at hp ⊢;omega) (by simp at hm;omega)
    rw[hq] at step
    have hadd:addAt (at_+(p.length:Int) - i2) z out=out.set q (fadd .f32 (out.getD q 0) z):=by
     unfold addAt;rw[hq2,if_pos (by omega)];rfl
    rw[hadd] at step ⊢
    rw[decide_eq_true hc,hq2] at *
    have g1:decide ((0:Int)≤(q:Int)∧(q:Int)<(k:Int))=true:=decide_eq_true (by omega)
    have g2:okAt [.flt .f32] (fls .f32 out) q=true:=okAt_fls hqk
    have g3:Nat.ble (q+1) (fls .f32 out).length=true:=by rw[fls_length];exact le_ble (by omega)
    simp only[br_t,g1,gd_t,Int.toNat_natCast,g2,g3,fAt_fls,setN_flt]
    simpa using step
   ·have step:=ih (p++[z]) (addAt (at_+(p.length:Int) - i2) z out) m (by rw[addAt_length];exact ho) (by simp at hp ⊢;omega) (by simp at hm;omega)
    have hadd:addAt (at_+(p.length:Int) - i2) z out=out:=by unfold addAt;rw[if_neg (by omega)]
    rw[hadd,hq] at step
    rw[hadd,decide_eq_false hc,br_f]
    simpa using step
theorem i_samples_loop (n:Nat) (track frm:Int) (N:Nat) (ts:List T) (M:Nat) (us:List T) (k:Nat) (hk:k≤100000) (hf : -10000000≤frm∧frm≤10000000) (cs:List Eff) (hl:cs.length≤100) (hcl:∀ c∈cs,(0≤c.len∧c.len≤256)∧c.nums.length≤256) (hn:300<n):∀ (j i m:Nat) (out:List Nat),i+j=cs.length→out.length=k→j<m →
  f100.l0 (n+1) m track frm (k:Int) N ts M us k (fls .f32 out) cs.length (effs cs) (cs.length:Int) (i:Int)=some (k,fls .f32 (trackGo track frm (cs.drop i) out)):=by
 intro j
 induction j with
 | zero =>
   intro i m out hi ho hm
   obtain ⟨m,rfl⟩:∃ k,m=k+1:=⟨m - 1,by omega⟩
   rw[f100.l0,nlt_dec (by omega),List.drop_eq_nil_of_le (by omega)];rfl
 | succ j ih =>
   intro i m out hi ho hm
   obtain ⟨m,rfl⟩:∃ k,m=k+1:=⟨m - 1,by omega⟩
   have h:i<cs.length:=by omega
   obtain ⟨c1,c2⟩:=hcl _ (eAt_mem h)
   rw[f100.l0,lt_dec h,in_dec h,Int.toNat_natCast,okE h,eff_drop h,trackGo]
   simp only[br_t,Bool.and_self,gd_t,kE h,gE h,nE h,lE h,bd_s,wrap_succ (show i<9223372036854775807 by omega)]
   by_cases hc:(eAt cs i).kind=track
   ·have e:=i_samples_clip n track frm N ts M us k (eAt cs i).kind (eAt cs i).len (eAt cs i).nums.length (fls .f32 (eAt cs i).nums) cs.length (effs cs) (cs.length:Int) (i:Int) hk (by omega) hf (eAt cs i).nums [] out (n+1) ho (by simp;omega) (by omega)
    have e:f100.l1 (n+1) (n+1) track frm (k:Int) N ts M us k (fls .f32 out) (eAt cs i).kind (eAt cs i).len (eAt cs i).nums.length (fls .f32 (eAt cs i).nums) cs.length (effs cs) (cs.length:Int) (i:Int) (eAt cs i).nums.length (fls .f32 (eAt cs i).nums) ((eAt cs i).nums.length:Int) 0=_:=e
    rw[show ((eAt cs i).kind != track)=false by simp[hc],if_pos hc]
    simp only[br_f,e,bd_s,List.length_nil,Int.natCast_zero,Int.add_zero,wrap_succ (show i<9223372036854775807 by omega)]
    exact ih (i+1) m _ (by omega) (by rw[addClip_length];exact ho) (by omega)
   ·rw[show ((eAt cs i).kind != track)=true by simp[hc],if_neg hc]
    simp only[br_t]
    exact ih (i+1) m out (by omega) ho (by omega)
theorem i_samples (n:Nat) (cs:List Eff) (M:Nat) (us:List T) (track frm:Int) (k:Nat) (hk:k≤100000) (hf : -10000000≤frm∧frm≤10000000) (hl:cs.length≤100) (hcl:∀ c∈cs,(0≤c.len∧c.len≤256)∧c.nums.length≤256) (hn:300<n) :
  f100 (n+2) cs.length (effs cs) M us track frm (k:Int)=some (k,fls .f32 (trackGo track frm cs (List.replicate k 0))):=by
 have e:=i_samples_loop n track frm cs.length (effs cs) M us k hk hf cs hl hcl hn cs.length 0 (n+1) (List.replicate k 0) (by omega) (by simp) (by omega)
 have e:f100.l0 (n+1) (n+1) track frm (k:Int) cs.length (effs cs) M us k (fls .f32 (List.replicate k 0)) cs.length (effs cs) (cs.length:Int) 0=_:=e
 rw[f100,i_zeroed n k (by omega)]
 simp only[bd_s,e,List.drop_zero]
theorem allW_zeros (k:Nat):AllW (List.replicate k 0):=fun y hy=>by
 obtain ⟨-,rfl⟩:=List.mem_replicate.1 hy;exact w32_zero
structure SOk (cl:List Eff) (ss:List Strp):Prop where
 n:1≤ss.length∧ss.length≤8
 c:cl.length≤12
 s:∀ s∈ss,chainB s.es=true∧(-2000≤s.tn∧s.tn≤2000)∧panB s.pan=true
 k:∀ c∈cl,(0≤c.kind∧c.kind≤(ss.length:Int) - 1)∧(0≤c.len∧c.len≤256)∧c.nums.length≤256
theorem sess_ok {cl:List Eff} {ss:List Strp} (h:sessB cl ss=true):SOk cl ss:=by
 unfold sessB at h
 simp only[Bool.and_eq_true,decide_eq_true_eq,List.all_eq_true] at h
 obtain ⟨h1,h2,h3,h4⟩:=h
 refine ⟨h1,h2,fun s hs => ?_,fun c hc => ?_⟩
 ·have:=h3 s hs
  unfold stB at this
  simp only[Bool.and_eq_true,decide_eq_true_eq] at this
  exact ⟨this.1,this.2.1,this.2.2⟩
 ·have:=h4 c hc
  unfold clB at this
  simp only[Bool.and_eq_true,decide_eq_true_eq] at this
  exact ⟨this.1,this.2.1,this.2.2⟩
structure GoodS (cl:List Eff) (ss:List Strp):Prop where
 c:∀ c∈cl,GoodE c
 s:∀ s∈ss,(∀ e∈s.es,GoodE e)∧GoodI .i64 s.tn∧W32 s.pan
theorem s_chain_loopB (n:Nat) {bs:List Int} (hb:Bytes bs):∀ (j m:Nat) (a sd:Int) (acc:List Ef),0≤a→a+1000 * (j:Int)≤1125899906830000→acc.length+j≤1000→j<m→(∀ e∈acc,e.Ok) →
  ∃ (es:List Ef) (a' sd':Int),es.length=acc.length+j∧(∀ e∈es,e.Ok)∧(a≤a'∧a'≤a+400 * (j:Int))∧f71.l0 (n+9) m bs.length (its .u8 bs) a sd acc.length (effs (effL acc)) (j:Int)=some (bs.length,its .u8 bs,a',sd',es.length,effs (effL es)):=by
 intro j
 induction j with
 | zero =>
   intro m a sd acc _ _ _ hm hw
   obtain ⟨m,rfl⟩:∃ k,m=k+1:=⟨m - 1,by omega⟩
   rw[f71.l0]
   exact ⟨acc,a,sd,by omega,hw,by omega,rfl⟩
 | succ j ih =>
   intro m a sd acc h0 h1 hl hm hw
   obtain ⟨m,rfl⟩:∃ k,m=k+1:=⟨m - 1,by omega⟩
   obtain ⟨e,a1,s1,he,ha1,e1⟩:=s_effect n hb h0 (by omega) sd
   obtain ⟨es,a',sd',q1,q2,qa,q3⟩:=ih m a1 s1 (acc++[e]) (by omega) (by omega) (by simp;omega) (by omega) (by
    intro x hx
    rcases List.mem_append.1 hx with h | h
    ·exact hw x h
    ·rw[List.mem_singleton.1 h];exact he)
   refine ⟨es,a',sd',by simp at q1;omega,q2,by omega,?_⟩
   rw[f71.l0,decide_eq_true (show (((j+1:Nat):Int)>0) by omega),show IntKind.i64.wrap (((j+1:Nat):Int) - 1)=(j:Int) by rw[wrap64] <;>omega]
   have hp:=push_eff (effL acc) e.eff
   have hq:effL acc++[e.eff]=effL (acc++[e]):=by simp[effL]
   rw[hq] at hp
   have hl1:(effL acc).length=acc.length:=effL_length acc
   unfold effC at hp
   simp only[br_t,e1,bd_s,push_ok (show acc.length<2147483648 by omega),gd_t]
   rw[hp,push_len (z:=e)]
   exact q3
theorem s_chainD (n:Nat) {bs:List Int} (hb:Bytes bs) (hn:100<n) {a:Int} (h0:0≤a) (h1:a≤1125899906800000) (sd:Int):∃ (es:List Ef) (a' sd':Int),es.length≤8∧(∀ e∈es,e.Ok)∧(a≤a'∧a'≤a+4000)∧f71 (n+10) bs.length (its .u8 bs) a sd=some (es.length,effs (effL es),bs.length,its .u8 bs,a',sd'):=by
 obtain ⟨k,a1,s1,hk,ha1,e1⟩:=s_pick (n+7) hb (a:=a) (by omega) (by omega) sd 5
 obtain ⟨k,rfl⟩:=Int.eq_ofNat_of_zero_le hk.1
 have hk5:=hk.2.1 (by omega)
 obtain ⟨b,a2,s2,ha2,e2⟩:=s_one (n+6) hb (a:=a1) (by omega) (by omega) s1 24
 obtain ⟨es,a3,s3,q1,q2,qa,q3⟩:=s_chain_loopB n hb k (n+9) a2 s2 [] (by omega) (by omega) (by simp;omega) (by omega) (by simp)
 obtain ⟨fs,a4,s4,r1,r2,ra,r3⟩:=s_chain_loopB n hb 8 (n+9) a2 s2 [] (by omega) (by omega) (by simp) (by omega) (by simp)
 have q3:f71.l0 (n+9) (n+9) bs.length (its .u8 bs) a2 s2 0 (reps 0 [(T.int .i64 (0:Int)),(T.int .i64 (0:Int)),(T.lst 0 [])]) (k:Int)=_:=q3
 have r3:f71.l0 (n+9) (n+9) bs.length (its .u8 bs) a2 s2 0 (reps 0 [(T.int .i64 (0:Int)),(T.int .i64 (0:Int)),(T.lst 0 [])]) 8=_:=r3
 rw[f71,e1]
 cases b
 ·simp only[bd_s,e2,br_f,q3]
  exact ⟨es,a3,s3,by simp at q1;omega,q2,by omega,rfl⟩
 ·simp only[bd_s,e2,br_t,r3]
  exact ⟨fs,a4,s4,by simp at r1;omega,r2,by omega,rfl⟩
def panW (k:Nat):Nat:=fdiv .f32 (FloatKind.f32.nearest (k:Int)) 1098907648
theorem pan_tab:∀ k:Nat,k<17→panB (panW k)=true:=by decide +kernel
structure StD (s:Strp):Prop where
 es:∃ es:List Ef,effL es=s.es∧(∀ e∈es,e.Ok)∧es.length≤8
 tn : -90≤s.tn∧s.tn≤29
 pan:∃ k:Nat,k<17∧s.pan=panW k
structure ClD (N:Nat) (c:Eff):Prop where
 kind:0≤c.kind∧c.kind≤(N:Int) - 1
 len:0≤c.len∧c.len≤11
 few:c.nums.length≤8
 w:AllW c.nums
structure Drawn (cl:List Eff) (ss:List Strp):Prop where
 n:1≤ss.length∧ss.length≤3
 c:cl.length≤4
 s:∀ s∈ss,StD s
 k:∀ c∈cl,ClD ss.length c
theorem push_stD (acc:List Strp) (s:Strp):strps acc++setN (reps 1 [(T.lst 0 []),(T.int .i64 (0:Int)),(T.flt .f32 0),(T.bool false),(T.bool false)]) 0 (stC s)=strps (acc++[s]):=by
 unfold strps
 rw[List.flatMap_append,List.flatMap_singleton];rfl
theorem s_strips_loop (n:Nat) {bs:List Int} (hb:Bytes bs) (hn:100<n) (N5:Nat) (t5:List T) (N7:Nat) (t7:List T) (N9:Nat) (t9:List T):∀ (j m:Nat) (a sd:Int) (acc:List Strp),0≤a→a+5000 * (j:Int)≤1125899906790000→acc.length+j≤1000→j<m→(∀ s∈acc,StD s) →
  ∃ (ss:List Strp) (a' sd':Int),ss.length=acc.length+j∧(∀ s∈ss,StD s)∧(a≤a'∧a'≤a+5000 * (j:Int))∧f98.l0 (n+10) m bs.length (its .u8 bs) a sd N5 t5 N7 t7 N9 t9 acc.length (strps acc) (j:Int)=some (bs.length,its .u8 bs,a',sd',N5,t5,N7,t7,N9,t9,ss.length,strps ss):=by
 intro j
 induction j with
 | zero =>
   intro m a sd acc _ _ _ hm hw
   obtain ⟨m,rfl⟩:∃ k,m=k+1:=⟨m - 1,by omega⟩
   rw[f98.l0]
   exact ⟨acc,a,sd,by omega,hw,by omega,rfl⟩
 | succ j ih =>
   intro m a sd acc h0 h1 hl hm hw
   obtain ⟨m,rfl⟩:∃ k,m=k+1:=⟨m - 1,by omega⟩
   have hj:IntKind.i64.wrap (((j+1:Nat):Int) - 1)=(j:Int):=by rw[wrap64] <;>omega
   obtain ⟨b1,a1,s1,ha1,e1⟩:=s_one (n+7) hb (a:=a) (by omega) (by omega) sd 6
   obtain ⟨b2,a2,s2,ha2,e2⟩:=s_one (n+7) hb (a:=a1) (by omega) (by omega) s1 8
   obtain ⟨b3,a3,s3,ha3,e3⟩:=s_one (n+7) hb (a:=a2) (by omega) (by omega) s2 2
   obtain ⟨es,a4,s4,q1,q2,ha4,e4⟩:=s_chainD n hb hn (a:=a3) (by omega) (by omega) s3
   have fin:∀ (es:List Ef) (a5 s5:Int),es.length≤8→(∀ e∈es,e.Ok)→a≤a5→a5≤a+4010→∃ (t p a7 s7 a6 s6:Int) (st:Strp),f74 (n+10) bs.length (its .u8 bs) a5 s5 120=some (t,bs.length,its .u8 bs,a6,s6)∧f74 (n+10) bs.length (its .u8 bs) a6 s6 17=some (p,bs.length,its .u8 bs,a7,s7)∧StD st ∧
     st=⟨effL es,IntKind.i64.wrap (t - 90),fdiv .f32 (FloatKind.f32.nearest p) 1098907648,b1,b2⟩∧(a≤a7∧a7≤a+4100):=by
    intro es a5 s5 q1 q2 l1 l2
    obtain ⟨t,a6,s6,ht,ha6,e6⟩:=s_pick (n+8) hb (a:=a5) (by omega) (by omega) s5 120
    obtain ⟨p,a7,s7,hp,ha7,e7⟩:=s_pick (n+8) hb (a:=a6) (by omega) (by omega) s6 17
    have ht2:=ht.2.1 (by omega)
    have hp2:=hp.2.1 (by omega)
    obtain ⟨p,rfl⟩:=Int.eq_ofNat_of_zero_le hp.1
    refine ⟨t,p,a7,s7,a6,s6,_,e6,e7,⟨⟨es,rfl,q2,q1⟩,?_,⟨p,by omega,rfl⟩⟩,rfl,by omega⟩
    have:=ht.1
    show -90≤IntKind.i64.wrap (t - 90)∧IntKind.i64.wrap (t - 90)≤29
    rw[wrap64] <;>omega
   rw[f98.l0,decide_eq_true (show (((j+1:Nat):Int)>0) by omega)]
   simp only[br_t,e1,e2,e3,bd_s]
   cases b3
   ·obtain ⟨t,p,a7,s7,a6,s6,st,e6,e7,hst,rfl,ha7⟩:=fin [] a3 s3 (by simp) (by simp) (by omega) (by omega)
    have hp:=push_stD acc ⟨effL [],IntKind.i64.wrap (t - 90),fdiv .f32 (FloatKind.f32.nearest p) 1098907648,b1,b2⟩
    unfold stC at hp
    simp only at hp
    have hp':strps acc++setN (reps 1 [(T.lst 0 []),(T.int .i64 (0:Int)),(T.flt .f32 0),(T.bool false),(T.bool false)]) 0 [(T.lst 0 (reps 0 [(T.int .i64 (0:Int)),(T.int .i64 (0:Int)),(T.lst 0 [])])),(T.int .i64 (IntKind.i64.wrap (t - 90))),(T.flt .f32 (fdiv .f32 (FloatKind.f32.nearest p) 1098907648)),(T.bool b1),(T.bool b2)]=_:=hp
    obtain ⟨ss,a',sd',r1,r2,ra,r3⟩:=ih m a7 s7 (acc++[⟨effL [],IntKind.i64.wrap (t - 90),fdiv .f32 (FloatKind.f32.nearest p) 1098907648,b1,b2⟩]) (by omega) (by omega) (by simp;omega) (by omega) (by
     intro x hx
     rcases List.mem_append.1 hx with h | h
     ·exact hw x h
     ·rw[List.mem_singleton.1 h];exact hst)
    refine ⟨ss,a',sd',by simp at r1;omega,r2,by omega,?_⟩
    simp only[br_f,e6,e7,bd_s,push_ok (show acc.length<2147483648 by omega),gd_t,hj]
    rw[hp',push_len (z:=(⟨effL [],IntKind.i64.wrap (t - 90),fdiv .f32 (FloatKind.f32.nearest p) 1098907648,b1,b2⟩:Strp))]
    exact r3
   ·obtain ⟨t,p,a7,s7,a6,s6,st,e6,e7,hst,rfl,ha7⟩:=fin es a4 s4 q1 q2 (by omega) (by omega)
    have hp:=push_stD acc ⟨effL es,IntKind.i64.wrap (t - 90),fdiv .f32 (FloatKind.f32.nearest p) 1098907648,b1,b2⟩
    unfold stC at hp
    simp only[effL_length] at hp
    obtain ⟨ss,a',sd',r1,r2,ra,r3⟩:=ih m a7 s7 (acc++[⟨effL es,IntKind.i64.wrap (t - 90),fdiv .f32 (FloatKind.f32.nearest p) 1098907648,b1,b2⟩]) (by omega) (by omega) (by simp;omega) (by omega) (by
     intro x hx
     rcases List.mem_append.1 hx with h | h
     ·exact hw x h
     ·rw[List.mem_singleton.1 h];exact hst)
    refine ⟨ss,a',sd',by simp at r1;omega,r2,by omega,?_⟩
    simp only[br_t,e4,e6,e7,bd_s,push_ok (show acc.length<2147483648 by omega),gd_t,hj]
    rw[hp,push_len (z:=(⟨effL es,IntKind.i64.wrap (t - 90),fdiv .f32 (FloatKind.f32.nearest p) 1098907648,b1,b2⟩:Strp))]
    exact r3
theorem s_clips_loopD (n:Nat) {bs:List Int} (hb:Bytes bs) (hn:100<n) (N5:Nat) (t5:List T) (N7:Nat) (t7:List T) (N11:Nat) (hN:1≤N11) (t11:List T):∀ (j m:Nat) (a sd:Int) (acc:List Eff),0≤a→a+300 * (j:Int)≤1125899906790000→acc.length+j≤1000→j<m→(∀ c∈acc,ClD N11 c) →
  ∃ (cl:List Eff) (a' sd':Int),cl.length=acc.length+j∧(∀ c∈cl,ClD N11 c)∧f98.l1 (n+10) m bs.length (its .u8 bs) a sd N5 t5 N7 t7 acc.length (effs acc) N11 t11 (j:Int)=some (bs.length,its .u8 bs,a',sd',N5,t5,N7,t7,cl.length,effs cl,N11,t11):=by
 intro j
 induction j with
 | zero =>
   intro m a sd acc _ _ _ hm hw
   obtain ⟨m,rfl⟩:∃ k,m=k+1:=⟨m - 1,by omega⟩
   rw[f98.l1]
   exact ⟨acc,a,sd,by omega,hw,rfl⟩
 | succ j ih =>
   intro m a sd acc h0 h1 hl hm hw
   obtain ⟨m,rfl⟩:∃ k,m=k+1:=⟨m - 1,by omega⟩
   have hj:IntKind.i64.wrap (((j+1:Nat):Int) - 1)=(j:Int):=by rw[wrap64] <;>omega
   obtain ⟨t,a1,s1,ht,ha1,e1⟩:=s_pick (n+8) hb (a:=a) (by omega) (by omega) sd (N11:Int)
   obtain ⟨u,a2,s2,hu,ha2,e2⟩:=s_pick (n+8) hb (a:=a1) (by omega) (by omega) s1 12
   obtain ⟨k,a3,s3,hk,ha3,e3⟩:=s_pick (n+8) hb (a:=a2) (by omega) (by omega) s2 9
   obtain ⟨k,rfl⟩:=Int.eq_ofNat_of_zero_le hk.1
   have hk2:=hk.2.1 (by omega)
   have hu2:=hu.2.1 (by omega)
   obtain ⟨ys,a4,s4,hy,hyw,ha4,e4⟩:=s_floats (n+4) hb (a:=a3) (by omega) k (by omega) (by omega) (by omega) s3
   have hp:=push_eff acc ⟨t,u,ys⟩
   unfold effC at hp
   simp only at hp
   obtain ⟨cl,a',sd',r1,r2,r3⟩:=ih m a4 s4 (acc++[⟨t,u,ys⟩]) (by omega) (by omega) (by simp;omega) (by omega) (by
    intro x hx
    rcases List.mem_append.1 hx with h | h
    ·exact hw x h
    ·rw[List.mem_singleton.1 h]
     have h1:=ht.1
     by_cases hN1:1<(N11:Int)
     ·exact ⟨⟨h1,by have:=ht.2.1 hN1;show t≤_;omega⟩,⟨hu.1,by show u≤11;omega⟩,by show ys.length≤8;omega,hyw⟩
     ·have:=ht.2.2 (by omega)
      exact ⟨⟨h1,by show t≤_;omega⟩,⟨hu.1,by show u≤11;omega⟩,by show ys.length≤8;omega,hyw⟩)
   refine ⟨cl,a',sd',by simp at r1;omega,r2,?_⟩
   rw[f98.l1,decide_eq_true (show (((j+1:Nat):Int)>0) by omega)]
   simp only[br_t,e1,e2,e3,e4,bd_s,push_ok (show acc.length<2147483648 by omega),gd_t,hj]
   rw[hp,push_len (z:=(⟨t,u,ys⟩:Eff))]
   exact r3
theorem s_sessD (n:Nat) {bs:List Int} (hb:Bytes bs) (hn:100<n):∃ cl ss,Drawn cl ss∧f50 (n+12) bs.length (its .u8 bs)=some (cl.length,effs cl,ss.length,strps ss):=by
 obtain ⟨k,a1,s1,hk,ha1,e1⟩:=s_pick (n+8) hb (a:=0) (by omega) (by omega) 0 3
 obtain ⟨k,rfl⟩:=Int.eq_ofNat_of_zero_le hk.1
 have hk2:=hk.2.1 (by omega)
 obtain ⟨ss,a2,s2,q1,q2,qa,q3⟩:=s_strips_loop n hb hn 0 [] 0 [] 0 [] (k+1) (n+10) a1 s1 [] (by omega) (by omega) (by simp;omega) (by omega) (by simp)
 have q3:f98.l0 (n+10) (n+10) bs.length (its .u8 bs) a1 s1 0 [] 0 [] 0 (reps 0 [(T.int .i64 (0:Int)),(T.int .i64 (0:Int)),(T.lst 0 [])]) 0 (reps 0 [(T.lst 0 []),(T.int .i64 (0:Int)),(T.flt .f32 0),(T.bool false),(T.bool false)]) ((k+1:Nat):Int)=_:=q3
 obtain ⟨j,a3,s3,hj,ha3,e3⟩:=s_pick (n+8) hb (a:=a2) (by omega) (by omega) s2 5
 obtain ⟨j,rfl⟩:=Int.eq_ofNat_of_zero_le hj.1
 have hj2:=hj.2.1 (by omega)
 simp only[List.length_nil,Nat.zero_add] at q1
 obtain ⟨cl,a4,s4,r1,r2,r3⟩:=s_clips_loopD n hb hn 0 [] 0 [] ss.length (by omega) (strps ss) j (n+10) a3 s3 [] (by omega) (by omega) (by simp;omega) (by omega) (by simp)
 have r3:f98.l1 (n+10) (n+10) bs.length (its .u8 bs) a3 s3 0 [] 0 [] 0 [] ss.length (strps ss) (j:Int)=_:=r3
 simp only[List.length_nil,Nat.zero_add] at r1
 refine ⟨cl,ss,⟨by omega,by omega,q2,r2⟩,?_⟩
 rw[f50,s_from]
 simp only[bd_s]
 rw[f98,e1]
 simp only[bd_s]
 rw[show IntKind.i64.wrap (1+((k:Nat):Int))=((k+1:Nat):Int) by rw[wrap64] <;>omega,q3]
 simp only[bd_s,e3,r3]
theorem drawn_sess {cl:List Eff} {ss:List Strp} (h:Drawn cl ss):sessB cl ss=true:=by
 unfold sessB
 simp only[Bool.and_eq_true,decide_eq_true_eq,List.all_eq_true]
 refine ⟨⟨h.n.1,by have:=h.n.2;omega⟩,by have:=h.c;omega,fun s hs => ?_,fun c hc => ?_⟩
 ·obtain ⟨⟨es,e1,e2,e3⟩,t,k,hk,hp⟩:=h.s s hs
  unfold stB chainB
  simp only[Bool.and_eq_true,decide_eq_true_eq,List.all_eq_true]
  refine ⟨⟨by rw[← e1,effL_length];exact e3,fun e he => ?_⟩,⟨by omega,by omega⟩,by rw[hp];exact pan_tab k hk⟩
  rw[← e1] at he
  obtain ⟨f,hf,rfl⟩:=List.mem_map.1 he
  have v1:=i_valideffect 0 (e2 f hf)
  rw[i_effB] at v1
  simpa using v1
 ·obtain ⟨a,b,c,d⟩:=h.k c hc
  unfold clB
  simp only[Bool.and_eq_true,decide_eq_true_eq]
  omega
theorem drawn_small {cl:List Eff} {ss:List Strp} (h:Drawn cl ss):∀ s∈ss,s.es.length≤100∧∀ e∈s.es,e.nums.length≤1000:=by
 intro s hs
 obtain ⟨⟨es,e1,e2,e3⟩,-,-⟩:=h.s s hs
 refine ⟨by rw[← e1,effL_length];omega,fun e he => ?_⟩
 rw[← e1] at he
 obtain ⟨f,-,rfl⟩:=List.mem_map.1 he
 cases f <;>simp[Ef.eff]
theorem i_copychain_loop (n:Nat) (N:Nat) (ts:List T) (cs:List Eff) (hl:cs.length≤100) (hx:∀ e∈cs,e.nums.length≤1000):∀ (j i m:Nat) (P:List Eff),i+j=cs.length→P.length≤i→j<m →
  f78.l0 (n+1) m N ts P.length (effs P) cs.length (effs cs) (cs.length:Int) (i:Int)=some ((P++cs.drop i).length,effs (P++cs.drop i)):=by
 intro j
 induction j with
 | zero =>
   intro i m P hi hP hm
   obtain ⟨m,rfl⟩:∃ k,m=k+1:=⟨m - 1,by omega⟩
   rw[f78.l0,nlt_dec (by omega),List.drop_eq_nil_of_le (by omega),List.append_nil];rfl
 | succ j ih =>
   intro i m P hi hP hm
   obtain ⟨m,rfl⟩:∃ k,m=k+1:=⟨m - 1,by omega⟩
   have h:i<cs.length:=by omega
   have g:=i_copy n (eAt cs i).nums (by have:=hx _ (eAt_mem h);omega)
   have hp:=push_eff P (eAt cs i)
   unfold effC at hp
   rw[f78.l0,lt_dec h,in_dec h,Int.toNat_natCast,okE h]
   simp only[br_t,Bool.and_self,gd_t,kE h,gE h,nE h,lE h,g,bd_s,push_ok (show P.length<2147483648 by omega),hp]
   rw[push_len (z:=eAt cs i),wrap_succ (show i<9223372036854775807 by omega),ih (i+1) m _ (by omega) (by simp;omega) (by omega),eff_drop h]
   simp
theorem i_copychain (n:Nat) (hn:200<n) (cs:List Eff) (hl:cs.length≤100) (hx:∀ e∈cs,e.nums.length≤1000):f78 (n+2) cs.length (effs cs)=some (cs.length,effs cs):=by
 have e:=i_copychain_loop n cs.length (effs cs) cs hl hx cs.length 0 (n+1) [] (by omega) (by simp) (by omega)
 simp only[List.drop_zero,List.nil_append] at e
 have e:f78.l0 (n+1) (n+1) cs.length (effs cs) 0 [] cs.length (effs cs) (cs.length:Int) 0=_:=e
 rw[f78,e];rfl
theorem push_st (acc:List Strp) (s:Strp):strps acc++setN (reps 1 [(T.lst 0 []),(T.int .i64 (0:Int)),(T.flt .f32 0),(T.bool false),(T.bool false)]) 0 (stC s)=strps (acc++[s]):=by
 unfold strps
 rw[List.flatMap_append,List.flatMap_singleton];rfl
theorem i_own0 (n:Nat) (N1:Nat) (t1:List T) (N3:Nat) (t3:List T) (N5:Nat) (t5:List T) (N7:Nat) (t7:List T) (N11:Nat) (t11:List T) (cs:List Eff) (hl:cs.length≤100) (hx:∀ e∈cs,e.nums.length≤1000):∀ (j i m:Nat) (P:List Eff),i+j=cs.length→P.length≤i→j<m →
  f103.l0 (n+1) m N1 t1 N3 t3 N5 t5 N7 t7 P.length (effs P) N11 t11 cs.length (effs cs) (cs.length:Int) (i:Int)=some (N1,t1,N3,t3,N5,t5,N7,t7,(P++cs.drop i).length,effs (P++cs.drop i),N11,t11):=by
 intro j
 induction j with
 | zero =>
   intro i m P hi hP hm
   obtain ⟨m,rfl⟩:∃ k,m=k+1:=⟨m - 1,by omega⟩
   rw[f103.l0,nlt_dec (by omega),List.drop_eq_nil_of_le (by omega),List.append_nil];rfl
 | succ j ih =>
   intro i m P hi hP hm
   obtain ⟨m,rfl⟩:∃ k,m=k+1:=⟨m - 1,by omega⟩
   have h:i<cs.length:=by omega
   have g:=i_copy n (eAt cs i).nums (by have:=hx _ (eAt_mem h);omega)
   have hp:=push_eff P (eAt cs i)
   unfold effC at hp
   rw[f103.l0,lt_dec h,in_dec h,Int.toNat_natCast,okE h]
   simp only[br_t,Bool.and_self,gd_t,kE h,gE h,nE h,lE h,g,bd_s,push_ok (show P.length<2147483648 by omega),hp]
   rw[push_len (z:=eAt cs i),wrap_succ (show i<9223372036854775807 by omega),ih (i+1) m _ (by omega) (by simp;omega) (by omega),eff_drop h]
   simp
theorem i_own1 (n:Nat) (hn:200<n) (N1:Nat) (t1:List T) (N3:Nat) (t3:List T) (N5:Nat) (t5:List T) (N7:Nat) (t7:List T) (N9:Nat) (t9:List T) (ss:List Strp) (hl:ss.length≤100) (hx:∀ s∈ss,s.es.length≤100∧∀ e∈s.es,e.nums.length≤1000):∀ (j i m:Nat) (P:List Strp),i+j=ss.length→P.length≤i→j<m →
  f103.l1 (n+2) m N1 t1 N3 t3 N5 t5 N7 t7 N9 t9 P.length (strps P) ss.length (strps ss) (ss.length:Int) (i:Int)=some (N5,t5,N7,t7,N9,t9,(P++ss.drop i).length,strps (P++ss.drop i)):=by
 intro j
 induction j with
 | zero =>
   intro i m P hi hP hm
   obtain ⟨m,rfl⟩:∃ k,m=k+1:=⟨m - 1,by omega⟩
   rw[f103.l1,nlt_dec (by omega),List.drop_eq_nil_of_le (by omega),List.append_nil];rfl
 | succ j ih =>
   intro i m P hi hP hm
   obtain ⟨m,rfl⟩:∃ k,m=k+1:=⟨m - 1,by omega⟩
   have h:i<ss.length:=by omega
   have hs:=hx _ (sAt5_mem h)
   have g:=i_copychain n hn (sAt5 ss i).es hs.1 hs.2
   have hp:=push_st P (sAt5 ss i)
   unfold stC at hp
   rw[f103.l1,lt_dec h,in_dec h,Int.toNat_natCast,okS5 h]
   simp only[br_t,Bool.and_self,gd_t,nS5 h,lS5 h,tS5 h,pS5 h,mS5 h,oS5 h,g,bd_s,push_ok (show P.length<2147483648 by omega),hp]
   rw[push_len (z:=sAt5 ss i),wrap_succ (show i<9223372036854775807 by omega),ih (i+1) m _ (by omega) (by simp;omega) (by omega),st_drop h]
   simp
theorem i_own (n:Nat) (hn:200<n) (cs:List Eff) (ss:List Strp) (hl:cs.length≤100) (hx:∀ e∈cs,e.nums.length≤1000) (hl2:ss.length≤100) (hx2:∀ s∈ss,s.es.length≤100∧∀ e∈s.es,e.nums.length≤1000) :
  f103 (n+3) cs.length (effs cs) ss.length (strps ss)=some (cs.length,effs cs,ss.length,strps ss):=by
 have e0:=i_own0 (n+1) cs.length (effs cs) ss.length (strps ss) 0 [] 0 [] 0 [] cs hl hx cs.length 0 (n+2) [] (by omega) (by simp) (by omega)
 have e0:f103.l0 (n+2) (n+2) cs.length (effs cs) ss.length (strps ss) 0 [] 0 [] 0 [] 0 [] cs.length (effs cs) (cs.length:Int) 0=_:=e0
 have e1:=i_own1 n hn cs.length (effs cs) ss.length (strps ss) 0 [] 0 [] cs.length (effs cs) ss hl2 hx2 ss.length 0 (n+2) [] (by omega) (by simp) (by omega)
 have e1:f103.l1 (n+2) (n+2) cs.length (effs cs) ss.length (strps ss) 0 [] 0 [] cs.length (effs cs) 0 [] ss.length (strps ss) (ss.length:Int) 0=_:=e1
 simp only[List.drop_zero,List.nil_append] at e0 e1
 rw[f103,e0]
 simp only[bd_s,e1]
theorem s_own3 (n:Nat) (xs:List Nat) (h:xs.length≤2147483648):f119 (n+1) xs.length (fls .f32 xs)=some (xs.length,fls .f32 xs):=by
 rw[f119,Nat.zero_add,le_ble h];rfl
theorem s_clip9 (n:Nat) (e:Eff) (h:e.nums.length≤2147483648):f108 (n+2) e.kind e.len e.nums.length (fls .f32 e.nums)=some (e.kind,e.len,e.nums.length,fls .f32 e.nums):=by
 rw[f108,s_own3 n e.nums h];rfl
theorem s_effs9_loop (n:Nat) (cs:List Eff) (hl:cs.length≤100) (hx:∀ e∈cs,e.nums.length≤1000):∀ (j i m:Nat) (P:List Eff),i+j=cs.length→P.length≤i→j<m →
  f149.l0 (n+1) m cs.length (effs cs) P.length (effs P) (cs.length:Int) (i:Int)=some ((P++cs.drop i).length,effs (P++cs.drop i)):=by
 intro j
 induction j with
 | zero =>
   intro i m P hi hP hm
   obtain ⟨m,rfl⟩:∃ k,m=k+1:=⟨m - 1,by omega⟩
   rw[f149.l0,nlt_dec (by omega),List.drop_eq_nil_of_le (by omega),List.append_nil];rfl
 | succ j ih =>
   intro i m P hi hP hm
   obtain ⟨m,rfl⟩:∃ k,m=k+1:=⟨m - 1,by omega⟩
   have h:i<cs.length:=by omega
   have g:=s_own3 n (eAt cs i).nums (by have:=hx _ (eAt_mem h);omega)
   have hp:=push_eff P (eAt cs i)
   unfold effC at hp
   rw[f149.l0,lt_dec h,in_dec h,Int.toNat_natCast,okE h]
   simp only[br_t,Bool.and_self,gd_t,kE h,gE h,nE h,lE h,g,bd_s,push_ok (show P.length<2147483648 by omega),hp]
   rw[push_len (z:=eAt cs i),wrap_succ (show i<9223372036854775807 by omega),ih (i+1) m _ (by omega) (by simp;omega) (by omega),eff_drop h]
   simp
theorem s_effs9 (n:Nat) (hn:200<n) (cs:List Eff) (hl:cs.length≤100) (hx:∀ e∈cs,e.nums.length≤1000):f149 (n+2) cs.length (effs cs)=some (cs.length,effs cs):=by
 have e:=s_effs9_loop n cs hl hx cs.length 0 (n+1) [] (by omega) (by simp) (by omega)
 simp only[List.drop_zero,List.nil_append] at e
 have e:f149.l0 (n+1) (n+1) cs.length (effs cs) 0 (reps 0 [(T.int .i64 (0:Int)),(T.int .i64 (0:Int)),(T.lst 0 [])]) (cs.length:Int) 0=_:=e
 rw[f149,e];rfl
theorem s_own0 (n:Nat) (N3:Nat) (t3:List T) (N5:Nat) (t5:List T) (N7:Nat) (t7:List T) (N11:Nat) (t11:List T) (cs:List Eff) (hl:cs.length≤100) (hx:∀ e∈cs,e.nums.length≤1000):∀ (j i m:Nat) (P:List Eff),i+j=cs.length→P.length≤i→j<m →
  f107.l0 (n+2) m cs.length (effs cs) N3 t3 N5 t5 N7 t7 P.length (effs P) N11 t11 (cs.length:Int) (i:Int)=some (cs.length,effs cs,N3,t3,N5,t5,N7,t7,(P++cs.drop i).length,effs (P++cs.drop i),N11,t11):=by
 intro j
 induction j with
 | zero =>
   intro i m P hi hP hm
   obtain ⟨m,rfl⟩:∃ k,m=k+1:=⟨m - 1,by omega⟩
   rw[f107.l0,nlt_dec (by omega),List.drop_eq_nil_of_le (by omega),List.append_nil];rfl
 | succ j ih =>
   intro i m P hi hP hm
   obtain ⟨m,rfl⟩:∃ k,m=k+1:=⟨m - 1,by omega⟩
   have h:i<cs.length:=by omega
   have g:=s_clip9 n (eAt cs i) (by have:=hx _ (eAt_mem h);omega)
   have hp:=push_eff P (eAt cs i)
   unfold effC at hp
   rw[f107.l0,lt_dec h,in_dec h,Int.toNat_natCast,okE h]
   simp only[br_t,Bool.and_self,gd_t,kE h,gE h,nE h,lE h,g,bd_s,push_ok (show P.length<2147483648 by omega),hp]
   rw[push_len (z:=eAt cs i),wrap_succ (show i<9223372036854775807 by omega),ih (i+1) m _ (by omega) (by simp;omega) (by omega),eff_drop h]
   simp
theorem s_own1 (n:Nat) (hn:200<n) (N1:Nat) (t1:List T) (N5:Nat) (t5:List T) (N7:Nat) (t7:List T) (N9:Nat) (t9:List T) (ss:List Strp) (hl:ss.length≤100) (hx:∀ s∈ss,s.es.length≤100∧∀ e∈s.es,e.nums.length≤1000):∀ (j i m:Nat) (P:List Strp),i+j=ss.length→P.length≤i→j<m →
  f107.l1 (n+2) m N1 t1 ss.length (strps ss) N5 t5 N7 t7 N9 t9 P.length (strps P) (ss.length:Int) (i:Int)=some (N5,t5,N7,t7,N9,t9,(P++ss.drop i).length,strps (P++ss.drop i)):=by
 intro j
 induction j with
 | zero =>
   intro i m P hi hP hm
   obtain ⟨m,rfl⟩:∃ k,m=k+1:=⟨m - 1,by omega⟩
   rw[f107.l1,nlt_dec (by omega),List.drop_eq_nil_of_le (by omega),List.append_nil];rfl
 | succ j ih =>
   intro i m P hi hP hm
   obtain ⟨m,rfl⟩:∃ k,m=k+1:=⟨m - 1,by omega⟩
   have h:i<ss.length:=by omega
   have hs:=hx _ (sAt5_mem h)
   have g:=s_effs9 n hn (sAt5 ss i).es hs.1 hs.2
   have hp:=push_st P (sAt5 ss i)
   unfold stC at hp
   rw[f107.l1,lt_dec h,in_dec h,Int.toNat_natCast,okS5 h]
   simp only[br_t,Bool.and_self,gd_t,nS5 h,lS5 h,tS5 h,pS5 h,mS5 h,oS5 h,g,bd_s,push_ok (show P.length<2147483648 by omega),hp]
   rw[push_len (z:=sAt5 ss i),wrap_succ (show i<9223372036854775807 by omega),ih (i+1) m _ (by omega) (by simp;omega) (by omega),st_drop h]
   simp
theorem s_ownq (n:Nat) (hn:200<n) (cs:List Eff) (ss:List Strp) (hl:cs.length≤100) (hx:∀ e∈cs,e.nums.length≤1000) (hl2:ss.length≤100) (hx2:∀ s∈ss,s.es.length≤100∧∀ e∈s.es,e.nums.length≤1000) :
  f107 (n+3) cs.length (effs cs) ss.length (strps ss)=some (cs.length,effs cs,ss.length,strps ss):=by
 have e0:=s_own0 n ss.length (strps ss) 0 [] 0 [] 0 [] cs hl hx cs.length 0 (n+2) [] (by omega) (by simp) (by omega)
 have e0:f107.l0 (n+2) (n+2) cs.length (effs cs) ss.length (strps ss) 0 [] 0 [] 0 (reps 0 [(T.int .i64 (0:Int)),(T.int .i64 (0:Int)),(T.lst 0 [])]) 0 (reps 0 [(T.lst 0 []),(T.int .i64 (0:Int)),(T.flt .f32 0),(T.bool false),(T.bool false)]) (cs.length:Int) 0=_:=e0
 have e1:=s_own1 n hn cs.length (effs cs) 0 [] 0 [] cs.length (effs cs) ss hl2 hx2 ss.length 0 (n+2) [] (by omega) (by simp) (by omega)
 have e1:f107.l1 (n+2) (n+2) cs.length (effs cs) ss.length (strps ss) 0 [] 0 [] cs.length (effs cs) 0 [] (ss.length:Int) 0=_:=e1
 simp only[List.drop_zero,List.nil_append] at e0 e1
 rw[f107,e0]
 simp only[bd_s,e1]
theorem i_checkedq (n:Nat) (hn:200<n) (C:List Eff) (S:List Strp):f104 (n+7) C.length (effs C) S.length (strps S)=some (if sessB C S=true then .inr (C.length,effs C,S.length,strps S,true,C.length,effs C,S.length,strps S) else .inl (0,[],0,[],false,C.length,effs C,S.length,strps S)):=by
 rw[f104,i_sessB n C S (by omega),bd_s]
 cases sessB C S <;>rfl
def repG (kind:Int) (at_:Int) (nums:List Nat):Nat→List Eff
 | 0=>[]
 | r+1=>⟨kind,at_+(nums.length:Int),nums⟩::repG kind (at_+(nums.length:Int)) nums r
theorem repG_length (kind:Int) (nums:List Nat):∀ (r:Nat) (at_:Int),(repG kind at_ nums r).length=r
 | 0,_=>rfl
 | r+1,at_=>by simp[repG,repG_length kind nums r]
theorem i_end (n:Nat) (c:Eff) (h:c.nums.length≤1000) (h0:0≤c.len) (h1:c.len≤1000000):f102 (n+2) c.kind c.len c.nums.length (fls .f32 c.nums)=some (c.len+(c.nums.length:Int)):=by
 rw[f102,f87]
 simp only[bd_s]
 rw[wrap64] <;>omega
theorem i_rep_loopb (n:Nat) (kind:Int) (nums:List Nat) (hl:nums.length≤1000) (N2:Nat) (t2:List T) (N4:Nat) (t4:List T) (N8:Nat) (t8:List T):∀ (r m:Nat) (P:List Eff) (at_:Int),0≤at_→at_+1000 * (r:Int)≤1000000→P.length+r≤1000→r<m →
  f53.l0b (n+2) m (r:Int) N2 t2 N4 t4 P.length (effs P) N8 t8 kind at_ nums.length (fls .f32 nums)=some (N2,t2,N4,t4,(P++repG kind at_ nums r).length,effs (P++repG kind at_ nums r),N8,t8):=by
 intro r
 induction r with
 | zero =>
   intro m P at_ _ _ _ hm
   obtain ⟨m,rfl⟩:∃ k,m=k+1:=⟨m - 1,by omega⟩
   rw[f53.l0b,show decide (((0:Nat):Int)>0)=false from rfl,br_f,repG,List.append_nil]
 | succ r ih =>
   intro m P at_ h0 h1 hp hm
   obtain ⟨m,rfl⟩:∃ k,m=k+1:=⟨m - 1,by omega⟩
   have e:=i_end n ⟨kind,at_,nums⟩ hl h0 (by show at_≤_;omega)
   have e:f102 (n+2) kind at_ nums.length (fls .f32 nums)=some (at_+(nums.length:Int)):=e
   have g:=i_copy (n+1) nums (by omega)
   have hp2:=push_eff P ⟨kind,at_+(nums.length:Int),nums⟩
   unfold effC at hp2
   simp only at hp2
   rw[f53.l0b,decide_eq_true (show ((r+1:Nat):Int)>0 by omega)]
   simp only[br_t,e,bd_s,g,push_ok (show P.length<2147483648 by omega),gd_t,hp2]
   rw[push_len (z:=(⟨kind,at_+(nums.length:Int),nums⟩:Eff)),show IntKind.i64.wrap (((r+1:Nat):Int) - 1)=(r:Int) by rw[wrap64] <;>omega,ih m _ _ (by omega) (by omega) (by simp;omega) (by omega),repG,List.append_assoc,List.singleton_append]
theorem i_rep_loop (n:Nat) (kind:Int) (nums:List Nat) (hl:nums.length≤1000) (N2:Nat) (t2:List T) (N4:Nat) (t4:List T) (N8:Nat) (t8:List T) (r m:Nat) (P:List Eff) (at_:Int) (h0:0≤at_) (h1:at_+1000 * (r:Int)≤1000000) (hp:P.length+r≤1000) (hm:r<m) :
  f53.l0 (n+2) m (r:Int) N2 t2 N4 t4 P.length (effs P) N8 t8 kind at_ nums.length (fls .f32 nums)=some (N2,t2,N4,t4,(P++repG kind at_ nums r).length,effs (P++repG kind at_ nums r),N8,t8):=by
 rw[← i_rep_loopb n kind nums hl N2 t2 N4 t4 N8 t8 r m P at_ h0 h1 hp hm]
 obtain ⟨m,rfl⟩:∃ k,m=k+1:=⟨m - 1,by omega⟩
 rw[f53.l0,f53.l0b]
theorem s_rep_loop (n:Nat) (i:Nat) (times:Nat) (ht:times≤100) (cs:List Eff) (hi:i<cs.length) (hl:(eAt cs i).nums.length≤1000) (h0:0≤(eAt cs i).len) (h1:(eAt cs i).len≤100000) (N5:Nat) (t5:List T) (N7:Nat) (t7:List T) (N9:Nat) (t9:List T) (N13:Nat) (t13:List T):∀ (r j m:Nat) (P:List Eff),j+r=times→P.length+r≤1000→r<m →
  f54.l0 (n+2) m (i:Int) (times:Int) cs.length (effs cs) N5 t5 N7 t7 N9 t9 P.length (effs P) N13 t13 ((j+1:Nat):Int)=some (N7,t7,N9,t9,(P++repG (eAt cs i).kind ((eAt cs i).len+(j:Int) * ((eAt cs i).nums.length:Int)) (eAt cs i).nums r).length,effs (P++repG (eAt cs i).kind ((eAt cs i).len+(j:Int) * ((eAt cs i).nums.length:Int)) (eAt cs i).nums r),N13,t13):=by
 intro r
 induction r with
 | zero =>
   intro j m P hj _ hm
   obtain ⟨m,rfl⟩:∃ k,m=k+1:=⟨m - 1,by omega⟩
   rw[f54.l0,decide_eq_false (show ¬ ((j+1:Nat):Int)≤(times:Int) by omega),br_f,repG,List.append_nil]
 | succ r ih =>
   intro j m P hj hp hm
   obtain ⟨m,rfl⟩:∃ k,m=k+1:=⟨m - 1,by omega⟩
   have g:=s_clip9 n (eAt cs i) (by omega)
   generalize hL:(eAt cs i).nums.length=L at *
   have hjL:(0:Int)≤(j:Int) * (L:Int):=Int.mul_nonneg (by omega) (by omega)
   have hjL2:(j:Int) * (L:Int)≤100 * 1000:=Int.mul_le_mul (by omega) (by omega) (by omega) (by omega)
   have hs:((j+1:Nat):Int) * (L:Int)=(j:Int) * (L:Int)+(L:Int):=by rw[Int.natCast_add,Int.add_mul];simp
   have hp2:=push_eff P ⟨(eAt cs i).kind,(eAt cs i).len+(j:Int) * (L:Int)+(L:Int),(eAt cs i).nums⟩
   unfold effC at hp2
   simp only at hp2
   rw[hL] at hp2
   have w1:IntKind.i64.wrap (((j+1:Nat):Int) * (L:Int))=(j:Int) * (L:Int)+(L:Int):=by rw[hs,wrap64] <;>omega
   have w2:IntKind.i64.wrap ((eAt cs i).len+((j:Int) * (L:Int)+(L:Int)))=(eAt cs i).len+(j:Int) * (L:Int)+(L:Int):=by rw[wrap64] <;>omega
   rw[f54.l0,decide_eq_true (show ((j+1:Nat):Int)≤(times:Int) by omega),in_dec hi,Int.toNat_natCast,okE hi]
   simp only[br_t,Bool.and_self,gd_t,kE hi,gE hi,nE hi,lE hi,hL,g,bd_s,w1,w2,push_ok (show P.length<2147483648 by omega),hp2]
   rw[push_len (z:=(⟨(eAt cs i).kind,(eAt cs i).len+(j:Int) * (L:Int)+(L:Int),(eAt cs i).nums⟩:Eff)),wrap_succ (show j+1<9223372036854775807 by omega),ih (j+1) m _ (by omega) (by simp;omega) (by omega),repG,hL,hs,List.append_assoc,List.singleton_append,Int.add_assoc]
theorem bothR (n:Nat) (hn:1200<n) (cl:List Eff) (ss:List Strp) (hsm:sessB cl ss=true→∀ s∈ss,s.es.length≤100∧∀ e∈s.es,e.nums.length≤1000) (hl:cl.length≤1048576) (t k:Int) :
  (f54 (n+200) cl.length (effs cl) ss.length (strps ss) t k=some (0,[],0,[],false)∧f53 (n+200) cl.length (effs cl) ss.length (strps ss) t k=some (0,[],0,[],false)) ∨
  ∃ (i r:Nat) (C:List Eff),t=(i:Int)∧k=(r:Int)∧i<cl.length∧r≤12∧sessB cl ss=true∧C=cl++repG (eAt cl i).kind (eAt cl i).len (eAt cl i).nums r∧f54 (n+200) cl.length (effs cl) ss.length (strps ss) t k=some (C.length,effs C,ss.length,strps ss,true)∧f53 (n+200) cl.length (effs cl) ss.length (strps ss) t k=some (C.length,effs C,ss.length,strps ss,true):=by
 have v1:=s_sessB (n+193) cl ss (by omega)
 have v1:f105 (n+199) cl.length (effs cl) ss.length (strps ss)=_:=v1
 have v2:=i_sessB (n+193) cl ss (by omega)
 have v2:f101 (n+199) cl.length (effs cl) ss.length (strps ss)=_:=v2
 have w:IntKind.i64.wrap ((cl.length:Int) - 1)=(cl.length:Int) - 1:=by rw[wrap64] <;>omega
 rw[f54,f53,v1,v2,w]
 simp only[bd_s,s_in,i_in,i_index (n+197) t cl.length (by omega)]
 by_cases h1:sessB cl ss=true
 case neg =>
  have h1:sessB cl ss=false:=by simpa using h1
  rw[h1];exact .inl ⟨rfl,rfl⟩
 rw[h1]
 by_cases h2:0≤t∧t≤(cl.length:Int) - 1
 case neg=>rw[decide_eq_false h2];exact .inl ⟨rfl,rfl⟩
 rw[decide_eq_true h2]
 by_cases h3:1≤k∧k≤12
 case neg=>rw[decide_eq_false h3];exact .inl ⟨rfl,rfl⟩
 rw[decide_eq_true h3]
 have hok:=sess_ok h1
 have hsm:=hsm h1
 obtain ⟨i,rfl⟩:=Int.eq_ofNat_of_zero_le h2.1
 obtain ⟨k,rfl⟩:=Int.eq_ofNat_of_zero_le (show 0≤k by omega)
 have hi:i<cl.length:=by omega
 have hcl:∀ e∈cl,e.nums.length≤256:=fun e he=>(hok.k e he).2.2
 have hc:=hok.k _ (eAt_mem hi)
 have hc12:=hok.c
 have hs8:=hok.n
 have r1:decide ((0:Int)≤(i:Int)∧(i:Int)<((cl.length:Nat):Int))=true:=in_dec hi
 simp only[Bool.not_true,br_f,br_t,bd_s,r1,Int.toNat_natCast,okE hi,Bool.and_self,gd_t,nE hi]
 by_cases h4:(eAt cl i).nums.length=0
 ·rw[show ((((eAt cl i).nums.length:Nat):Int)==0)=true by rw[h4];rfl]
  exact .inl ⟨rfl,rfl⟩
 rw[show ((((eAt cl i).nums.length:Nat):Int)==0)=false by simp;exact fun h=>h4 (by rw[h];rfl)]
 have o1:=s_ownq (n+196) (by omega) cl ss (by omega) (fun e he=>by have:=hcl e he;omega) (by omega) hsm
 have o1:f107 (n+199) cl.length (effs cl) ss.length (strps ss)=_:=o1
 have o2:=i_own (n+196) (by omega) cl ss (by omega) (fun e he=>by have:=hcl e he;omega) (by omega) hsm
 have o2:f103 (n+199) cl.length (effs cl) ss.length (strps ss)=_:=o2
 have l1:=s_rep_loop (n+197) i k (by omega) cl hi (by omega) (by omega) (by omega) ss.length (strps ss) 0 [] 0 [] ss.length (strps ss) k 0 (n+199) cl (by omega) (by omega) (by omega)
 have hz:(eAt cl i).len+((0:Nat):Int) * ((eAt cl i).nums.length:Int)=(eAt cl i).len:=by simp
 rw[hz] at l1
 have l1:f54.l0 (n+199) (n+199) (i:Int) (k:Int) cl.length (effs cl) ss.length (strps ss) 0 [] 0 [] cl.length (effs cl) ss.length (strps ss) 1=_:=l1
 have l2:=i_rep_loop (n+197) (eAt cl i).kind (eAt cl i).nums (by omega) 0 [] 0 [] ss.length (strps ss) k (n+199) cl (eAt cl i).len (by omega) (by omega) (by omega) (by omega)
 have l2:f53.l0 (n+199) (n+199) (k:Int) 0 [] 0 [] cl.length (effs cl) ss.length (strps ss) (eAt cl i).kind (eAt cl i).len (eAt cl i).nums.length (fls .f32 (eAt cl i).nums)=_:=l2
 obtain ⟨C,hC⟩:∃ C,C=cl++repG (eAt cl i).kind (eAt cl i).len (eAt cl i).nums k:=⟨_,rfl⟩
 rw[← hC] at l1 l2
 have v3:=s_sessB (n+193) C ss (by omega)
 have v3:f105 (n+199) C.length (effs C) ss.length (strps ss)=_:=v3
 have ck:=i_checkedq (n+192) (by omega) C ss
 have ck:f104 (n+199) C.length (effs C) ss.length (strps ss)=_:=ck
 simp only[br_f,o1,o2,bd_s,kE hi,gE hi,lE hi,l1,l2,v3,ck]
 cases hv:sessB C ss
 ·exact .inl ⟨rfl,rfl⟩
 ·exact .inr ⟨i,k,C,rfl,rfl,hi,by omega,trivial,hC,rfl,rfl⟩
def farM:List Eff→Int→Int
 | [],a=>a
 | c::cs,a=>farM cs (if c.len+(c.nums.length:Int)>a then c.len+(c.nums.length:Int) else a)
theorem i_len_loop (n:Nat) (N:Nat) (ts:List T) (M:Nat) (us:List T) (cs:List Eff) (hl:cs.length≤100) (hx:∀ c∈cs,(0≤c.len∧c.len≤1000)∧c.nums.length≤1000):∀ (j i m:Nat) (a:Int),i+j=cs.length→j<m →
  f52.l0 (n+2) m N ts M us a cs.length (effs cs) (cs.length:Int) (i:Int)=some (farM (cs.drop i) a):=by
 intro j
 induction j with
 | zero =>
   intro i m a hi hm
   obtain ⟨m,rfl⟩:∃ k,m=k+1:=⟨m - 1,by omega⟩
   rw[f52.l0,nlt_dec (by omega),List.drop_eq_nil_of_le (by omega)];rfl
 | succ j ih =>
   intro i m a hi hm
   obtain ⟨m,rfl⟩:∃ k,m=k+1:=⟨m - 1,by omega⟩
   have h:i<cs.length:=by omega
   have hc:=hx _ (eAt_mem h)
   have e:=i_end n (eAt cs i) hc.2 hc.1.1 (by omega)
   rw[f52.l0,lt_dec h,in_dec h,Int.toNat_natCast,okE h]
   simp only[br_t,Bool.and_self,gd_t,kE h,gE h,nE h,lE h,e,bd_s]
   rw[wrap_succ (show i<9223372036854775807 by omega),ih (i+1) m _ (by omega) (by omega),eff_drop h,farM]
theorem l_clip_loop (n:Nat) (N1:Nat) (t1:List T) (N3:Nat) (t3:List T) (N5:Nat) (t5:List T) (trk:Int) (k:Nat) (hk:k≤1000) (N9:Nat) (t9:List T) (i11 i14 kind at_:Int) (h0:0≤at_) (h1:at_≤1000) (i19 i20:Int):∀ (zs p out:List Nat) (m:Nat),out.length=k→p.length+zs.length≤1000→zs.length<m →
  f8.l1 n m N1 t1 N3 t3 N5 t5 trk (k:Int) N9 t9 i11 k (fls .f32 out) i14 kind at_ (p++zs).length (fls .f32 (p++zs)) i19 i20 ((p++zs).length:Int) (p.length:Int) =
   some (N1,t1,N3,t3,N5,t5,trk,(k:Int),N9,t9,i11,k,fls .f32 (if kind=trk then addClip (at_+(p.length:Int)) zs out else out),i14,i19,i20):=by
 intro zs
 induction zs with
 | nil =>
   intro p out m ho _ hm
   obtain ⟨m,rfl⟩:∃ k,m=k+1:=⟨m - 1,by omega⟩
   rw[f8.l1,lt_end]
   simp[br,addClip]
 | cons z zs ih =>
   intro p out m ho hp hm
   obtain ⟨m,rfl⟩:∃ k,m=k+1:=⟨m - 1,by omega⟩
   have hp':p.length<1000:=by simp at hp;omega
   have w:IntKind.i64.wrap (at_+(p.length:Int))=at_+(p.length:Int):=by rw[wrap64] <;>omega
   have ih:=fun out ho=>ih (p++[z]) out m ho (by simp at hp ⊢;omega) (by simp at hm;omega)
   have q1:(p++[z])++zs=p++z::zs:=by simp
   have q2:at_+(((p++[z]).length:Nat):Int)=at_+(p.length:Int)+1:=by simp;omega
   rw[q1,q2] at ih
   rw[f8.l1,lt_mid,w,in_mid,toNat_len,okAt_mid,fAt_mid,wrap_len (z:=z) (by omega)]
   simp only[br_t,Bool.and_self]
   by_cases hkd:kind=trk
   ·simp only[if_pos hkd] at ih
    rw[if_pos hkd]
    rw[show (kind==trk)=true by simp[hkd],br_t,addClip]
    obtain ⟨q,hq⟩:=Int.eq_ofNat_of_zero_le (show 0≤at_+(p.length:Int) by omega)
    by_cases hlt:at_+(p.length:Int)<(k:Int)
    ·have hqk:q<out.length:=by omega
     have hr:addAt (at_+(p.length:Int)) z out=out.set q (fadd .f32 (out.getD q 0) z):=by
      unfold addAt
      rw[if_pos ⟨by omega,by omega⟩,hq];rfl
     rw[decide_eq_true hlt,br_t,hr,hq,Int.toNat_natCast]
     rw[show decide ((0:Int)≤(q:Int)∧(q:Int)<((k:Nat):Int))=true by rw[← ho];exact in_dec hqk,okAt_fls hqk,fAt_fls,show Nat.ble (q+1) (fls FloatKind.f32 out).length=true by apply le_ble;simp[fls];omega]
     simp only[gd_t,setN_flt]
     rw[ih _ (by simp[ho]),hq]
    ·have hr:addAt (at_+(p.length:Int)) z out=out:=by
      unfold addAt
      rw[if_neg (by omega)]
     rw[decide_eq_false hlt,br_f,hr,ih out ho]
   ·simp only[if_neg hkd] at ih
    rw[if_neg hkd]
    rw[show (kind==trk)=false by simp[hkd],br_f,ih out ho]
theorem l_clips_loop (n:Nat) (hn:1100<n) (N1:Nat) (t1:List T) (N5:Nat) (t5:List T) (trk:Int) (k:Nat) (hk:k≤1000) (N9:Nat) (t9:List T) (i11:Int) (cs:List Eff) (hl:cs.length≤100) (hx:∀ c∈cs,(0≤c.len∧c.len≤1000)∧c.nums.length≤1000):∀ (j i m:Nat) (out:List Nat) (a:Int),i+j=cs.length→out.length=k→j<m →
  f8.l0 n m N1 t1 cs.length (effs cs) N5 t5 trk (k:Int) N9 t9 i11 k (fls .f32 out) a (cs.length:Int) (i:Int)=some (N1,t1,cs.length,effs cs,N5,t5,N9,t9,i11,k,fls .f32 (trackGo trk 0 (cs.drop i) out),farM (cs.drop i) a):=by
 intro j
 induction j with
 | zero =>
   intro i m out a hi ho hm
   obtain ⟨m,rfl⟩:∃ k,m=k+1:=⟨m - 1,by omega⟩
   rw[f8.l0,nlt_dec (by omega),List.drop_eq_nil_of_le (by omega)];rfl
 | succ j ih =>
   intro i m out a hi ho hm
   obtain ⟨m,rfl⟩:∃ k,m=k+1:=⟨m - 1,by omega⟩
   have h:i<cs.length:=by omega
   obtain ⟨⟨h0,h1⟩,h2⟩:=hx _ (eAt_mem h)
   have w:IntKind.i64.wrap ((eAt cs i).len+((eAt cs i).nums.length:Int))=(eAt cs i).len+((eAt cs i).nums.length:Int):=by rw[wrap64] <;>omega
   rw[f8.l0,lt_dec h,in_dec h,Int.toNat_natCast,okE h]
   simp only[br_t,Bool.and_self,gd_t,kE h,gE h,nE h,lE h,w]
   have e:=l_clip_loop n N1 t1 cs.length (effs cs) N5 t5 trk k hk N9 t9 i11 (if (eAt cs i).len+((eAt cs i).nums.length:Int)>a then (eAt cs i).len+((eAt cs i).nums.length:Int) else a) (eAt cs i).kind (eAt cs i).len h0 h1 (cs.length:Int) (i:Int) (eAt cs i).nums [] out n ho (by simpa using h2) (by omega)
   simp only[List.nil_append,List.length_nil] at e
   rw[show (eAt cs i).len+((0:Nat):Int)=(eAt cs i).len by simp,show ((0:Nat):Int)=0 from rfl] at e
   rw[e]
   simp only[bd_s]
   rw[wrap_succ (show i<9223372036854775807 by omega),ih (i+1) m _ _ (by omega) (by split;rw[addClip_length];exact ho;exact ho) (by omega),eff_drop h,trackGo,farM,Int.sub_zero]
theorem repG_get (kind:Int) (nums:List Nat):∀ (r:Nat) (at_:Int) (j:Nat),j<r→(repG kind at_ nums r)[j]?=some ⟨kind,at_+((j+1:Nat):Int) * (nums.length:Int),nums⟩
 | 0,_,j,h=>by omega
 | r+1,at_,0,_=>by simp[repG]
 | r+1,at_,j+1,h=>by
   rw[repG,List.getElem?_cons_succ,repG_get kind nums r _ j (by omega)]
   congr 2
   rw[show ((j+1+1:Nat):Int)=((j+1:Nat):Int)+1 by simp,Int.add_mul,Int.one_mul];omega
theorem l_check_loop (n:Nat) (hn:1100<n) (cl:List Eff) (hcl:cl.length≤100) (N3:Nat) (t3:List T) (r:Nat) (hr:r≤100) (N8:Nat) (t8:List T) (c:Eff) (hc0:0≤c.len) (hc1:c.len≤1000) (hc2:c.nums.length≤1000) (hw:AllW c.nums) (C:List Eff) (hC:C=cl++repG c.kind c.len c.nums r):∀ (j k m:Nat),k+j=r→j<m →
  f8.l2 (n+5) m cl.length (effs cl) N3 t3 (r:Int) C.length (effs C) N8 t8 c.kind c.len c.nums.length (fls .f32 c.nums) ((k+1:Nat):Int)=some (.inr ()):=by
 have hCl:C.length=cl.length+r:=by rw[hC];simp[repG_length]
 intro j
 induction j with
 | zero =>
   intro k m hk hm
   obtain ⟨m,rfl⟩:∃ k,m=k+1:=⟨m - 1,by omega⟩
   rw[f8.l2,decide_eq_false (show ¬ ((k+1:Nat):Int)≤(r:Int) by omega),br_f]
 | succ j ih =>
   intro k m hk hm
   obtain ⟨m,rfl⟩:∃ k,m=k+1:=⟨m - 1,by omega⟩
   have w1:IntKind.i64.wrap ((cl.length:Int)+((k+1:Nat):Int))=((cl.length+k:Nat):Int)+1:=by rw[wrap64] <;>omega
   have w2:IntKind.i64.wrap (((cl.length+k:Nat):Int)+1 - 1)=((cl.length+k:Nat):Int):=by rw[wrap64] <;>omega
   have h:cl.length+k<C.length:=by omega
   have hat:eAt C (cl.length+k)=⟨c.kind,c.len+((k+1:Nat):Int) * (c.nums.length:Int),c.nums⟩:=by
    unfold eAt List.getD
    rw[hC,List.getElem?_append_right (by omega),show cl.length+k - cl.length=k by omega,repG_get _ _ _ _ _ (by omega)];rfl
   have hkL:(0:Int)≤((k+1:Nat):Int) * (c.nums.length:Int):=Int.mul_nonneg (by omega) (by omega)
   have hkL2:((k+1:Nat):Int) * (c.nums.length:Int)≤200 * 1000:=Int.mul_le_mul (by omega) (by omega) (by omega) (by omega)
   have w3:IntKind.i64.wrap (((k+1:Nat):Int) * (c.nums.length:Int))=((k+1:Nat):Int) * (c.nums.length:Int):=by rw[wrap64] <;>omega
   have w4:IntKind.i64.wrap (c.len+((k+1:Nat):Int) * (c.nums.length:Int))=c.len+((k+1:Nat):Int) * (c.nums.length:Int):=by rw[wrap64] <;>omega
   have e:=l_same10 n c.nums c.nums hw hw (by omega) (by omega)
   rw[decide_eq_true rfl] at e
   rw[f8.l2,decide_eq_true (show ((k+1:Nat):Int)≤(r:Int) by omega),w1,w2,in_dec h,Int.toNat_natCast,okE h]
   simp only[br_t,Bool.and_self,gd_t,kE h,gE h,nE h,lE h,hat,bne_self_eq_false,br_f,w3,w4,e,bd_s,Bool.not_true]
   rw[wrap_succ (show k+1<9223372036854775807 by omega)]
   exact ih (k+1) m (by omega) (by omega)
theorem exact_ (cs:List Int) (hc:∀ b∈cs,GoodI .u8 b) (lc:cs.length≤maxLen) (ms:List Int) (hm:∀ b∈ms,GoodI .u8 b) (lm:ms.length≤maxLen):∃ n,f8 n cs.length (its .u8 cs) ms.length (its .u8 ms)=some true:=by
 refine ⟨4000,?_⟩
 suffices h:∀ n,f8 (n+2001) cs.length (its .u8 cs) ms.length (its .u8 ms)=some true from h 1999
 intro n
 rw[f8,l_long10]
 cases hlong:decide (1048576<cs.length∨1048576<ms.length)
 case true=>rfl
 obtain ⟨cl,ss,hd,e1⟩:=s_sessD (n+1988) (bytes_of hc) (by omega)
 have e1:f50 (n+2000) cs.length (its .u8 cs)=_:=e1
 have hsb:=drawn_sess hd
 have hok:=sess_ok hsb
 have hn3:=hd.n
 have hc4:=hd.c
 obtain ⟨trk,ht,e2⟩:=l_at10 (n+1999) (bytes_of hm) (i:=0) (k:=(ss.length:Int)) (by omega) (by omega) (by omega)
 obtain ⟨k,hk,e3⟩:=l_at10 (n+1999) (bytes_of hm) (i:=1) (k:=30) (by omega) (by omega) (by omega)
 obtain ⟨cq,hcq,e4⟩:=l_at10 (n+1999) (bytes_of hm) (i:=2) (k:=4) (by omega) (by omega) (by omega)
 obtain ⟨tq,htq,e5⟩:=l_at10 (n+1999) (bytes_of hm) (i:=3) (k:=3) (by omega) (by omega) (by omega)
 obtain ⟨k,rfl⟩:=Int.eq_ofNat_of_zero_le hk.1
 have hx:∀ c∈cl,(0≤c.len∧c.len≤256)∧c.nums.length≤256:=fun c h=>(hok.k c h).2
 have hx2:∀ c∈cl,(0≤c.len∧c.len≤1000)∧c.nums.length≤1000:=fun c h=>by have:=hx c h;omega
 have v1:=i_sessB (n+1993) cl ss (by omega)
 have v1:f101 (n+1999) cl.length (effs cl) ss.length (strps ss)=_:=v1
 have v2:=i_sessB (n+1992) cl ss (by omega)
 have v2:f101 (n+1998) cl.length (effs cl) ss.length (strps ss)=_:=v2
 rw[hsb] at v1 v2
 have g0:=i_samples (n+1997) cl ss.length (strps ss) trk 0 k (by omega) (by omega) (by omega) hx (by omega)
 have g0:f100 (n+1999) cl.length (effs cl) ss.length (strps ss) trk 0 (k:Int)=_:=g0
 have g1:f51 (n+2000) cl.length (effs cl) ss.length (strps ss) trk (k:Int)=some (k,fls .f32 (trackGo trk 0 cl (List.replicate k 0)),true):=by
  rw[f51,f99,v2]
  simp only[bd_s,br_t,i_index (n+1996) trk ss.length (by omega),i_count (n+1996),decide_eq_true (show 0≤trk∧trk≤(ss.length:Int) - 1 by omega),decide_eq_true (show (0:Int)≤(k:Int)∧(k:Int)≤256 by omega),Bool.not_true,br_f,g0]
 have l0:=i_len_loop (n+1997) cl.length (effs cl) ss.length (strps ss) cl (by omega) hx2 cl.length 0 (n+1999) 0 (by omega) (by omega)
 have l0:f52.l0 (n+1999) (n+1999) cl.length (effs cl) ss.length (strps ss) 0 cl.length (effs cl) (cl.length:Int) 0=_:=l0
 rw[List.drop_zero] at l0
 have g2:f52 (n+2000) cl.length (effs cl) ss.length (strps ss)=some (farM cl 0,true):=by
  rw[f52,v1]
  simp only[bd_s,Bool.not_true,br_f,l0]
 have l1:=l_clips_loop (n+2000) (by omega) ms.length (its .u8 ms) ss.length (strps ss) trk k (by omega) k (fls .f32 (trackGo trk 0 cl (List.replicate k 0))) (farM cl 0) cl (by omega) hx2 cl.length 0 (n+2000) (List.replicate k 0) 0 (by omega) (by simp) (by omega)
 have hz:fls .f32 (List.replicate k 0)=reps k [T.flt .f32 0]:=by rw[reps_fls]
 rw[hz,List.drop_zero] at l1
 have l1:f8.l0 (n+2000) (n+2000) ms.length (its .u8 ms) cl.length (effs cl) ss.length (strps ss) trk (k:Int) k (fls .f32 (trackGo trk 0 cl (List.replicate k 0))) (farM cl 0) k (reps k [T.flt .f32 0]) 0 (cl.length:Int) 0=_:=l1
 have hw:=trackGo_w32 trk 0 cl (List.replicate k 0) (allW_zeros k)
 have hwl:(trackGo trk 0 cl (List.replicate k 0)).length=k:=by rw[trackGo_length];simp
 have g3:=l_same10 (n+1995) (trackGo trk 0 cl (List.replicate k 0)) _ hw hw (by omega) (by omega)
 rw[decide_eq_true rfl,hwl] at g3
 have g3:f39 (n+2000) k _ k _=_:=g3
 have wq:IntKind.i64.wrap (1+tq)=1+tq:=by rw[wrap64] <;>omega
 have hR:=bothR (n+1800) (by omega) cl ss (fun _=>drawn_small hd) (by omega) cq (1+tq)
 have e2:f33 (n+2000) ms.length (its .u8 ms) 0 (ss.length:Int)=_:=e2
 have e3:f33 (n+2000) ms.length (its .u8 ms) 1 30=_:=e3
 have e4:f33 (n+2000) ms.length (its .u8 ms) 2 4=_:=e4
 have e5:f33 (n+2000) ms.length (its .u8 ms) 3 3=_:=e5
 simp only[br_f,bd_s,e1,e2,e3,g1,g2,Bool.not_true,bne_self_eq_false,decide_eq_true (show (0:Int)≤(k:Int)∧(k:Int)≤2147483648 by omega),gd_t,Int.toNat_natCast,l1,g3,e4,e5,wq]
 rcases hR with ⟨r1,r2⟩ | ⟨i,r,C,rfl,hr,hi,hr12,-,hC,r1,r2⟩
 ·have r1:f54 (n+2000) cl.length (effs cl) ss.length (strps ss) cq (1+tq)=_:=r1
  have r2:f53 (n+2000) cl.length (effs cl) ss.length (strps ss) cq (1+tq)=_:=r2
  simp only[r1,r2,bd_s]
  rfl
 ·have r1:f54 (n+2000) cl.length (effs cl) ss.length (strps ss) (i:Int) (1+tq)=_:=r1
  have r2:f53 (n+2000) cl.length (effs cl) ss.length (strps ss) (i:Int) (1+tq)=_:=r2
  have hCl:C.length=cl.length+r:=by rw[hC];simp[repG_length]
  have wc:IntKind.i64.wrap ((cl.length:Int)+(r:Int))=((C.length:Nat):Int):=by rw[hCl,wrap64] <;>omega
  have hci:=hd.k _ (eAt_mem hi)
  have q:=l_check_loop (n+1995) (by omega) cl (by omega) ss.length (strps ss) r (by omega) ss.length (strps ss) (eAt cl i) hci.len.1 (by have:=hci.len.2;omega) (by have:=hci.few;omega) hci.w C hC r 0 (n+2000) (by omega) (by omega)
  have q:f8.l2 (n+2000) (n+2000) cl.length (effs cl) ss.length (strps ss) (r:Int) C.length (effs C) ss.length (strps ss) (eAt cl i).kind (eAt cl i).len (eAt cl i).nums.length (fls .f32 (eAt cl i).nums) 1=_:=q
  rw[hr] at r1 r2
  simp only[hr,r1,r2,bd_s,beq_self_eq_true,Bool.not_true,br_f,wc,bne_self_eq_false,in_dec hi,okE hi,Int.toNat_natCast,Bool.and_self,gd_t,kE hi,gE hi,nE hi,lE hi,q,sm_r]
theorem law8:∀ args,LawArgs E Try.f8.params.toList args→∃ N os,evalFn E N 8 args=some ⟨[⟨false,[.leaf],[.bool true]⟩],os⟩:=by
 intro args h0
 have hp:Try.f8.params.toList=[22,22]:=by kernel_rfl
 rw[hp] at h0
 obtain ⟨ts0,r0,rfl,hw0,h1⟩:=h0.cons_inv (d:=⟨false,1,24,[.sl .own [.leaf]],[.lst 0 []],.slc 5⟩) (by kernel_rfl)
 obtain ⟨n0,cs0,rfl,gl0,hs0⟩:=hw0.slc_inv (e:=5) (d:=⟨false,1,24,[.sl .own [.leaf]],[.lst 0 []],.slc 5⟩) (by kernel_rfl) rfl
 obtain ⟨a0,rfl,rfl,g0⟩:=hs0.ints (k:=.u8) (d:=⟨false,1,1,[.leaf],[.int .u8 0],.int .u8⟩) (by kernel_rfl) rfl
 obtain ⟨ts1,r1,rfl,hw1,h2⟩:=h1.cons_inv (d:=⟨false,1,24,[.sl .own [.leaf]],[.lst 0 []],.slc 5⟩) (by kernel_rfl)
 obtain ⟨n1,cs1,rfl,gl1,hs1⟩:=hw1.slc_inv (e:=5) (d:=⟨false,1,24,[.sl .own [.leaf]],[.lst 0 []],.slc 5⟩) (by kernel_rfl) rfl
 obtain ⟨a1,rfl,rfl,g1⟩:=hs1.ints (k:=.u8) (d:=⟨false,1,1,[.leaf],[.int .u8 0],.int .u8⟩) (by kernel_rfl) rfl
 obtain rfl:=h2.nil_inv
 obtain ⟨N,hN⟩:=exact_ a0 g0 gl0 a1 g1 gl1
 exact ⟨N,_,f8.ok N (a0.length,its .u8 a0,a1.length,its .u8 a1) true hN⟩
end Go.Proofs.Ytdobhipbgpiceaa.D
end
section
namespace Go.Proofs.Ytdobhipbgpiceaa.fnClips
open Go Go.ChangeShapes Go.WideShapes Go.ChangeAt Go.RowKit Go.Desk
set_option linter.unusedVariables false
theorem own:ownKnob Try.prog.godebug=none:=by kernel_rfl
theorem laidOut:laidOutB Try.prog=true:=by kernel_rfl
set_option maxRecDepth 100000 in
theorem lifted (os:Os) (started:os.Started) (H:Type) (enc:TypeId × Value→H) :
  ReturnsInHanded {} Try.checked os 8 .any (Rows.fnClipsSpec.pre6 enc Try.prog Try.f8 Rows.fnClipsRow.domain false) (Rows.fnClipsSpec.post enc Try.prog Try.f8 false true false false):=by
 refine returnsInHanded_of_change (C:=Try.checked) own started (by kernel_rfl) Try.func8
  (ChangeSpec.witness6 (enc:=enc) (C:=Try.checked) false ⟨#[],#[.slice none 0 0,.slice none 0 0],[]⟩ 8 (by kernel_rfl) (by kernel_rfl) (by kernel_rfl) (by kernel_rfl)) ?_
 intro W base args ds gs before hval hW hcnd _
 exact law_contract (c:=D.c8) Try.checked.mixed D.tysOk D.fnOk Try.func8 (by kernel_rfl) (by kernel_rfl) (by kernel_rfl) Try.underlying4 rfl
  (fun ds h=>by
    rw[show Try.f8.params.toList.length=2 by kernel_rfl] at h
    match ds,h with
    | [_,_],_=>rfl)
  laidOut (N:=8) (by kernel_rfl) (by kernel_rfl) D.law8 hval hW
theorem over:Rows.fnClipsRow.holds Try.pinned (OpenSpec.ofChange Rows.fnClipsSpec) :=
 OpenClaim.holds_of_wide 8 Try.f8 rfl rfl rfl rfl rfl rfl rfl ⟨rfl,rfl,rfl,rfl,rfl⟩ rfl rfl rfl rfl rfl (by kernel_rfl) Try.func8 (by kernel_rfl)
  (of_decide_eq_true (by kernel_rfl)) (by unfold Func.isWrapper;first | (rw[if_pos (by decide +kernel)];kernel_rfl) | (rw[if_neg (by decide +kernel)];exact ⟨rfl,rfl⟩))
  (fun os started H enc _=>lifted os started H enc)
theorem proved:Rows.FnClipsSaid:=over
#print axioms proved
end Go.Proofs.Ytdobhipbgpiceaa.fnClips
namespace Go.Proofs.Ytdobhipbgpiceaa
theorem fnClips_holds:Rows.FnClipsSaid:=fnClips.proved
end Go.Proofs.Ytdobhipbgpiceaa
end
