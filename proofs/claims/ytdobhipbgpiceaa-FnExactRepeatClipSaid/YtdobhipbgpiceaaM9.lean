/- FnExactRepeatClip holds: for every input the law returns true, and its arguments read as before. -/
import Derived.Test.YtdobhipbgpiceaaChecked
import Derived.KernelRfl
import Derived.Test.YtdobhipbgpiceaaRows
import Derived.WalkKit
import Derived.ProofKit
import Derived.OpenShut
import Derived.ShutString
import Derived.ChangeOld
import Derived.Below
import Derived.SizedLaws
import Derived.Test.YtdobhipbgpiceaaKernC
import Derived.Test.YtdobhipbgpiceaaM9a
set_option linter.all false
set_option linter.unusedVariables false
section
namespace Go.Proofs.Ytdobhipbgpiceaa.D
open Go Go.Desk
set_option linter.unusedVariables false
theorem eqs_c (n:Nat) (es:List Eff) (hx:∀ e∈es,e.nums.length≤1048576) (hl:es.length≤1048576) (hn:1048576<n):f113 (n+4) es.length (effs es) es.length (effs es)=some true:=by
 have e:=eql_c n es hx hl hn es.length 0 (n+3) (by omega) (by omega)
 have e:f113.l0 (n+3) (n+3) es.length (effs es) es.length (effs es) 0=_:=e
 rw[f113]
 simp only[bne_self_eq_false,br_f,e,bd_s,sm_r]
theorem mkl_c (n:Nat) (hn:1048576<n):∀ (zs p:List Eff) (s:Int) (m:Nat),(∀ e∈zs,e.nums.length≤1048576)→0≤s→s+2 * (zs.length:Int)+(nmE zs:Int)≤1099511627776→p.length+zs.length≤1048576→zs.length<m →
  f115.l0 (n+1) m (p++zs).length (effs (p++zs)) s (p.length:Int)=some ((p++zs).length,effs (p++marksE s zs),s+2 * (zs.length:Int)+(nmE zs:Int)):=by
 intro zs
 induction zs with
 | nil =>
   intro p s m _ _ _ _ hm
   obtain ⟨m,rfl⟩:∃ k,m=k+1:=⟨m - 1,by simp at hm;omega⟩
   rw[f115.l0,lt_end]
   simp[br,marksE,nmE]
 | cons z zs ih =>
   intro p s m hx h0 h1 hp hm
   obtain ⟨m,rfl⟩:∃ k,m=k+1:=⟨m - 1,by simp at hm;omega⟩
   simp only[nmE,List.length_cons] at h1
   have hz:=hx z (by simp)
   have h:p.length<(p++z::zs).length:=by simp
   have hat:eAt (p++z::zs) p.length=z:=by simp[eAt,List.getD]
   have hlen:∀ y,(p++y::zs).length=(p++z::zs).length:=fun y=>by simp
   have hb:∀ (y:Eff) (c:Nat),c<3→Nat.ble (p.length * 3+c+1) (effs (p++y::zs)).length=true:=fun y c hc=>by
    rw[effs_length];apply le_ble;simp;omega
   have st:∀ (y z':Eff) (c:Nat) (v:T),c<3→effC z'=(effC y).set c v→setN (effs (p++y::zs)) (p.length * 3+c) [v]=effs (p++z'::zs):=fun y z' c v hc hy=>by
    rw[setN_one]
    have:=rows_set effC_length ⟨5,0,[]⟩ (p++y::zs) p.length c v z' (by simp) hc (by simpa [List.getD] using hy)
    unfold effs
    rw[this];simp
   have w1:IntKind.i64.wrap (s+1)=s+1:=by rw[wrap64] <;>omega
   have w2:IntKind.i64.wrap (s+1+1)=s+2:=by rw[wrap64] <;>omega
   have e0:=st z ⟨s,z.len,z.nums⟩ 0 (.int .i64 s) (by decide) rfl
   have e1:=st ⟨s,z.len,z.nums⟩ ⟨s,s+1,z.nums⟩ 1 (.int .i64 (s+1)) (by decide) rfl
   have e2:=st ⟨s,s+1,z.nums⟩ ⟨s,s+1,marksF .f32 (s+2) z.nums.length⟩ 2 (.lst z.nums.length (fls .f32 (marksF .f32 (s+2) z.nums.length))) (by decide) (by simp[effC,marksF_length])
   have h2:p.length<(p++(⟨s,s+1,z.nums⟩:Eff)::zs).length:=by simp
   have hat2:eAt (p++(⟨s,s+1,z.nums⟩:Eff)::zs) p.length=⟨s,s+1,z.nums⟩:=by simp[eAt,List.getD]
   have g3:(effs (p++(⟨s,s+1,z.nums⟩:Eff)::zs))[p.length * 3+2]?=some (.lst z.nums.length (fls .f32 z.nums)):=by
    rw[eff_get (c:=2) (by decide) _ _ h2,hat2];rfl
   have g4:okAt [.lst] (effs (p++(⟨s,s+1,z.nums⟩:Eff)::zs)) (p.length * 3+2)=true:=by simp[okAt,g3,isCK]
   have g5:nAt (effs (p++(⟨s,s+1,z.nums⟩:Eff)::zs)) (p.length * 3+2)=z.nums.length:=by unfold nAt;rw[g3]
   have g6:lAt (effs (p++(⟨s,s+1,z.nums⟩:Eff)::zs)) (p.length * 3+2)=fls .f32 z.nums:=by unfold lAt;rw[g3]
   have e3:=mark32 n z.nums (by omega) (s+2) (by omega) (by omega) (by omega)
   have step:=ih (p++[⟨s,s+1,marksF .f32 (s+2) z.nums.length⟩]) (s+2+(z.nums.length:Int)) m (fun e he=>hx e (by simp[he])) (by omega) (by omega) (by simp at hp ⊢;omega) (by simp at hm;omega)
   rw[f115.l0,lt_mid,in_mid,toNat_len,wrap_len (z:=z) (show p.length<4611686018427387904 by simp at hp;omega)]
   simp only[br_t,gd_t,hb z 0 (by decide),e0,w1,hb _ 1 (by decide),e1,w2,g4,Bool.and_self,g5,g6,e3,bd_s,e2]
   have q1:(p++[(⟨s,s+1,marksF .f32 (s+2) z.nums.length⟩:Eff)])++zs=p++⟨s,s+1,marksF .f32 (s+2) z.nums.length⟩::zs:=by simp
   have q2:(p++[(⟨s,s+1,marksF .f32 (s+2) z.nums.length⟩:Eff)])++marksE (s+2+(z.nums.length:Int)) zs=p++marksE s (z::zs):=by simp[marksE]
   rw[q1,q2,hlen] at step
   have q3:(p++[(⟨s,s+1,marksF .f32 (s+2) z.nums.length⟩:Eff)]).length=(p++[z]).length:=by simp
   rw[q3] at step
   rw[step]
   congr 3
   simp only[nmE,List.length_cons];omega
theorem mks_c (n:Nat) (es:List Eff) (hx:∀ e∈es,e.nums.length≤1048576) (hl:es.length≤1048576) (s:Int) (h0:0≤s) (h1:s+2 * (es.length:Int)+(nmE es:Int)≤1099511627776) (hn:1048576<n) :
  f115 (n+2) es.length (effs es) s=some (s+2 * (es.length:Int)+(nmE es:Int),es.length,effs (marksE s es)):=by
 have e:=mkl_c n hn es [] s (n+1) hx h0 h1 (by simpa using hl) (by omega)
 have e:f115.l0 (n+1) (n+1) es.length (effs es) s 0=some (es.length,effs (marksE s es),s+2 * (es.length:Int)+(nmE es:Int)):=e
 rw[f115,e];rfl
structure Fin (cl:List Eff) (ss:List Strp):Prop where
 c:szE cl≤1048576
 s:szSt ss≤1048576
structure Huge (cl:List Eff) (ss:List Strp):Prop where
 c:cl.length≤9223372036854775807
 cn:∀ e∈cl,e.nums.length≤9223372036854775807
 s:ss.length≤9223372036854775807
 se:∀ s∈ss,s.es.length≤9223372036854775807∧∀ e∈s.es,e.nums.length≤9223372036854775807
theorem sz1_st (n:Nat) (s:Strp) (hx:s.es.length≤9223372036854775807∧∀ e∈s.es,e.nums.length≤9223372036854775807) (left:Int) (h0:0≤left) (h1:left≤1048576) (hn:1048577<n) :
  f151 (n+4) s.es.length (effs s.es) s.tn s.pan s.mute s.solo left=some (leftM left (szE s.es)):=by
 rw[f151,szs_e n s.es hx.2 hx.1 left h0 h1 hn]
 simp only[bd_s,leftM_neg h0]
 by_cases h:(szE s.es:Int)≤left
 ·rw[decide_eq_true h];rfl
 ·rw[decide_eq_false h];unfold leftM;rw[if_neg h];rfl
theorem szl_st (n:Nat) (hn:1048577<n) (ss:List Strp) (hx:∀ s∈ss,s.es.length≤9223372036854775807∧∀ e∈s.es,e.nums.length≤9223372036854775807) (hl:ss.length≤1048576):∀ (j i m:Nat) (left:Int),0≤left→left≤1048576→i+j=ss.length→j<m →
  f110.l0 (n+4) m ss.length (strps ss) left (i:Int)=some (if (nmSt (ss.drop i):Int)≤left then Sum.inr (left - (nmSt (ss.drop i):Int)) else Sum.inl (-1)):=by
 intro j
 induction j with
 | zero =>
   intro i m left h0 h1 hi hm
   obtain ⟨m,rfl⟩:∃ k,m=k+1:=⟨m - 1,by omega⟩
   rw[f110.l0,nlt_dec (by omega),List.drop_eq_nil_of_le (by omega)]
   simp[br,nmSt,h0]
 | succ j ih =>
   intro i m left h0 h1 hi hm
   obtain ⟨m,rfl⟩:∃ k,m=k+1:=⟨m - 1,by omega⟩
   have h:i<ss.length:=by omega
   have e1:=sz1_st n (sAt5 ss i) (hx _ (sAt5_mem h)) left h0 h1 hn
   rw[f110.l0,lt_dec h,in_dec h,Int.toNat_natCast,okS5 h,st_drop h,nmSt]
   simp only[br_t,Bool.and_self,gd_t,nS5 h,lS5 h,tS5 h,pS5 h,mS5 h,oS5 h,e1,bd_s,leftM_neg h0,wrap_succ (show i<9223372036854775807 by omega)]
   by_cases hc:(szE (sAt5 ss i).es:Int)≤left
   ·rw[decide_eq_true hc]
    simp only[Bool.not_true,br_f]
    have hL:leftM left (szE (sAt5 ss i).es)=left - (szE (sAt5 ss i).es:Int):=by unfold leftM;rw[if_pos hc]
    rw[hL,ih (i+1) m _ (by omega) (by omega) (by omega) (by omega)]
    congr 1
    by_cases h2:(nmSt (ss.drop (i+1)):Int)≤left - (szE (sAt5 ss i).es:Int)
    ·rw[if_pos h2,if_pos (by omega)];congr 1;omega
    ·rw[if_neg h2,if_neg (by omega)]
   ·rw[decide_eq_false hc,if_neg (by omega)];rfl
theorem szs_st (n:Nat) (ss:List Strp) (hx:∀ s∈ss,s.es.length≤9223372036854775807∧∀ e∈s.es,e.nums.length≤9223372036854775807) (hx2:ss.length≤9223372036854775807) (left:Int) (h0:0≤left) (h1:left≤1048576) (hn:1048577<n) :
  f110 (n+5) ss.length (strps ss) left=some (leftM left (szSt ss)):=by
 rw[f110,show IntKind.i64.wrap (left - (ss.length:Int))=left - (ss.length:Int) by rw[wrap64] <;>omega,szSt_nm]
 unfold leftM
 by_cases h:(ss.length:Int)≤left
 ·have e:=szl_st n hn ss hx (by omega) ss.length 0 (n+4) (left - (ss.length:Int)) (by omega) (by omega) (by omega) (by omega)
  have e:f110.l0 (n+4) (n+4) ss.length (strps ss) (left - (ss.length:Int)) 0=_:=e
  rw[decide_eq_false (by omega),e,List.drop_zero]
  by_cases h2:(nmSt ss:Int)≤left - (ss.length:Int)
  ·rw[if_pos h2,if_pos (by omega)]
   simp only[br_f,bd_s,sm_r]
   congr 1;omega
  ·rw[if_neg h2,if_neg (by omega)];rfl
 ·rw[decide_eq_true (by omega),if_neg (by omega)];rfl
theorem sz_sess (n:Nat) (cl:List Eff) (ss:List Strp) (h:Huge cl ss) (hn:1048577<n) :
  (∃ r:Int,0≤r∧f55 (n+6) cl.length (effs cl) ss.length (strps ss) 1048576=some r∧Fin cl ss)∨f55 (n+6) cl.length (effs cl) ss.length (strps ss) 1048576=some (-1):=by
 rw[f55,szs_c (n+2) cl h.cn h.c 1048576 (by omega) (by omega) (by omega)]
 simp only[bd_s,leftM_neg (show (0:Int)≤1048576 by omega)]
 by_cases h1:(szE cl:Int)≤1048576
 ·rw[decide_eq_true h1]
  have hL:leftM 1048576 (szE cl)=1048576 - (szE cl:Int):=by unfold leftM;rw[if_pos h1]
  simp only[Bool.not_true,br_f,hL,szs_st n ss h.se h.s (1048576 - (szE cl:Int)) (by omega) (by omega) hn,bd_s,leftM_neg (show (0:Int)≤1048576 - (szE cl:Int) by omega)]
  by_cases h2:(szSt ss:Int)≤1048576 - (szE cl:Int)
  ·rw[decide_eq_true h2]
   refine .inl ⟨1048576 - (szE cl:Int) - (szSt ss:Int),by omega,?_,⟨by omega,by omega⟩⟩
   unfold leftM;rw[if_pos h2];rfl
  ·rw[decide_eq_false h2];exact .inr rfl
 ·rw[decide_eq_false h1];exact .inr rfl
theorem fin_c {cl:List Eff} {ss:List Strp} (h:Fin cl ss):cl.length≤1048576∧∀ e∈cl,e.nums.length≤1048576 :=
 ⟨Nat.le_trans (szE_len cl) h.c,fun e he=>Nat.le_trans (szE_num cl e he) h.c⟩
theorem fin_s {cl:List Eff} {ss:List Strp} (h:Fin cl ss):ss.length≤1048576∧∀ s∈ss,s.es.length≤1048576∧∀ e∈s.es,e.nums.length≤1048576 :=
 ⟨Nat.le_trans (szSt_len ss) h.s,fun s hs=>by
   have h1:=Nat.le_trans (szSt_es ss s hs) h.s
   exact ⟨Nat.le_trans (szE_len _) h1,fun e he=>Nat.le_trans (szE_num _ e he) h1⟩⟩
theorem to1_st (n:Nat) (s:Strp) (hx:s.es.length≤1048576∧∀ e∈s.es,e.nums.length≤1048576) (hn:1048576<n):f153 (n+4) s.es.length (effs s.es) s.tn s.pan s.mute s.solo=some (s.es.length,effs s.es,s.tn,s.pan,s.mute,s.solo):=by
 rw[f153,tos_e n s.es hx.2 hx.1 hn];rfl
theorem tol_st (n:Nat) (ss:List Strp) (hx:∀ s∈ss,s.es.length≤1048576∧∀ e∈s.es,e.nums.length≤1048576) (hl:ss.length≤1048576) (hn:1048576<n):∀ (j i m:Nat) (ys:List Strp),ys.length=ss.length→i+j=ss.length→j<m →
  f112.l0 (n+4) m ss.length (strps ss) ss.length (strps (ss.take i++ys.drop i)) (i:Int)=some (ss.length,strps ss):=by
 intro j
 induction j with
 | zero =>
   intro i m ys hy hi hm
   obtain ⟨m,rfl⟩:∃ k,m=k+1:=⟨m - 1,by omega⟩
   rw[f112.l0,nlt_dec (by omega),List.take_of_length_le (by omega),List.drop_eq_nil_of_le (by omega),List.append_nil];rfl
 | succ j ih =>
   intro i m ys hy hi hm
   obtain ⟨m,rfl⟩:∃ k,m=k+1:=⟨m - 1,by omega⟩
   have h:i<ss.length:=by omega
   have hlen:(ss.take i++ys.drop i).length=ss.length:=by rw[List.length_append,List.length_take,List.length_drop];omega
   have h':i<(ss.take i++ys.drop i).length:=by omega
   have hb:Nat.ble (i * 5+0+5) (strps (ss.take i++ys.drop i)).length=true:=by rw[strps_length,hlen];exact le_ble (by omega)
   have hset:(ss.take i++ys.drop i).set i (sAt5 ss i)=ss.take (i+1)++ys.drop (i+1):=by
    have:sAt5 ss i=ss[i]:=by simp[sAt5,List.getD,h]
    rw[this];exact take_set_drop h hy
   rw[f112.l0,lt_dec h,in_dec h,Int.toNat_natCast,okS5 h]
   simp only[br_t,Bool.and_self,gd_t,nS5 h,lS5 h,tS5 h,pS5 h,mS5 h,oS5 h,to1_st n (sAt5 ss i) (hx _ (sAt5_mem h)) hn,bd_s,hb,st_row h' (sAt5 ss i),hset,wrap_succ (show i<9223372036854775807 by omega)]
   exact ih (i+1) m ys hy (by omega) (by omega)
theorem tos_st (n:Nat) (ss:List Strp) (hx:∀ s∈ss,s.es.length≤1048576∧∀ e∈s.es,e.nums.length≤1048576) (hl:ss.length≤1048576) (hn:1048576<n):f112 (n+5) ss.length (strps ss)=some (ss.length,strps ss):=by
 have e:=tol_st n ss hx hl hn ss.length 0 (n+4) (List.replicate ss.length ⟨[],0,0,false,false⟩) (by simp) (by omega) (by omega)
 rw[List.take_zero,List.drop_zero,List.nil_append] at e
 have e:f112.l0 (n+4) (n+4) ss.length (strps ss) ss.length (strps (List.replicate ss.length ⟨[],0,0,false,false⟩)) 0=_:=e
 rw[f112,decide_eq_true (show (0:Int)≤(ss.length:Int)∧(ss.length:Int)≤2147483648 by omega),reps_strps]
 simp only[gd_t,e,bd_s]
theorem to_sess (n:Nat) (cl:List Eff) (ss:List Strp) (h:Fin cl ss) (hn:1048576<n):f56 (n+6) cl.length (effs cl) ss.length (strps ss)=some (cl.length,effs cl,ss.length,strps ss):=by
 rw[f56,tos_c (n+2) cl (fin_c h).2 (fin_c h).1 (by omega)]
 simp only[bd_s,tos_st n ss (fin_s h).2 (fin_s h).1 hn]
theorem eq1_st (n:Nat) (s:Strp) (hx:s.es.length≤1048576∧∀ e∈s.es,e.nums.length≤1048576) (hn:1048576<n) :
  f155 (n+5) s.es.length (effs s.es) s.tn s.pan s.mute s.solo s.es.length (effs s.es) s.tn s.pan s.mute s.solo=some true:=by
 rw[f155,eqs_e n s.es hx.2 hx.1 hn,fltToFlt_wide]
 simp only[bd_s,Bool.not_true,br_f,bne_self_eq_false,same_self,beq_self_eq_true]
theorem eql_st (n:Nat) (ss:List Strp) (hx:∀ s∈ss,s.es.length≤1048576∧∀ e∈s.es,e.nums.length≤1048576) (hl:ss.length≤1048576) (hn:1048576<n):∀ (j i m:Nat),i+j=ss.length→j<m →
  f114.l0 (n+5) m ss.length (strps ss) ss.length (strps ss) (i:Int)=some (Sum.inr ()):=by
 intro j
 induction j with
 | zero =>
   intro i m hi hm
   obtain ⟨m,rfl⟩:∃ k,m=k+1:=⟨m - 1,by omega⟩
   rw[f114.l0,nlt_dec (by omega)];rfl
 | succ j ih =>
   intro i m hi hm
   obtain ⟨m,rfl⟩:∃ k,m=k+1:=⟨m - 1,by omega⟩
   have h:i<ss.length:=by omega
   rw[f114.l0,lt_dec h,in_dec h,Int.toNat_natCast,okS5 h]
   simp only[br_t,Bool.and_self,gd_t,nS5 h,lS5 h,tS5 h,pS5 h,mS5 h,oS5 h,eq1_st n (sAt5 ss i) (hx _ (sAt5_mem h)) hn,bd_s,Bool.not_true,br_f,wrap_succ (show i<9223372036854775807 by omega)]
   exact ih (i+1) m (by omega) (by omega)
theorem eqs_st (n:Nat) (ss:List Strp) (hx:∀ s∈ss,s.es.length≤1048576∧∀ e∈s.es,e.nums.length≤1048576) (hl:ss.length≤1048576) (hn:1048576<n):f114 (n+6) ss.length (strps ss) ss.length (strps ss)=some true:=by
 have e:=eql_st n ss hx hl hn ss.length 0 (n+5) (by omega) (by omega)
 have e:f114.l0 (n+5) (n+5) ss.length (strps ss) ss.length (strps ss) 0=_:=e
 rw[f114]
 simp only[bne_self_eq_false,br_f,e,bd_s,sm_r]
theorem eq_sess (n:Nat) (cl:List Eff) (ss:List Strp) (h:Fin cl ss) (hn:1048576<n):f57 (n+7) cl.length (effs cl) ss.length (strps ss) cl.length (effs cl) ss.length (strps ss)=some true:=by
 rw[f57,eqs_c (n+2) cl (fin_c h).2 (fin_c h).1 (by omega)]
 simp only[bd_s,Bool.not_true,br_f,eqs_st n ss (fin_s h).2 (fin_s h).1 hn]
def mkE (es:List Eff):Int:=2 * (es.length:Int)+(nmE es:Int)
def marksSt:Int→List Strp→List Strp
 | _,[]=>[]
 | s,t::ts=>⟨marksE s t.es,s+mkE t.es,FloatKind.f32.nearest (s+mkE t.es+1),Int.tmod (s+mkE t.es+2) 3==0,Int.tmod (s+mkE t.es+3) 3==0⟩::marksSt (s+mkE t.es+4) ts
def mkSt:List Strp→Int
 | []=>0
 | t::ts=>mkE t.es+4+mkSt ts
theorem mkE_nonneg (es:List Eff):0≤mkE es:=by unfold mkE;omega
theorem mkSt_nonneg:∀ (ss:List Strp),0≤mkSt ss
 | []=>Int.le_refl _
 | t::ts=>by have:=mkSt_nonneg ts;have:=mkE_nonneg t.es;simp only[mkSt];omega
theorem mkE_le (es:List Eff):mkE es≤2 * (szE es:Int):=by unfold mkE;rw[szE_nm];omega
theorem mkSt_le:∀ (ss:List Strp),mkSt ss≤4 * (szSt ss:Int)
 | []=>by simp[mkSt,szSt]
 | t::ts=>by have:=mkSt_le ts;have:=mkE_le t.es;simp only[mkSt,szSt];omega
theorem mkl_st (n:Nat) (hn:1048576<n):∀ (zs p:List Strp) (s:Int) (m:Nat),(∀ t∈zs,t.es.length≤1048576∧∀ e∈t.es,e.nums.length≤1048576)→0≤s→s+mkSt zs≤1099511627776→p.length+zs.length≤1048576→zs.length<m →
  f116.l0 (n+2) m (p++zs).length (strps (p++zs)) s (p.length:Int)=some ((p++zs).length,strps (p++marksSt s zs),s+mkSt zs):=by
 intro zs
 induction zs with
 | nil =>
   intro p s m _ _ _ _ hm
   obtain ⟨m,rfl⟩:∃ k,m=k+1:=⟨m - 1,by simp at hm;omega⟩
   rw[f116.l0,lt_end]
   simp[br,marksSt,mkSt]
 | cons z zs ih =>
   intro p s m hx h0 h1 hp hm
   obtain ⟨m,rfl⟩:∃ k,m=k+1:=⟨m - 1,by simp at hm;omega⟩
   have hz:=hx z (by simp)
   have hmk:=mkE_nonneg z.es
   have hmk2:=mkSt_nonneg zs
   simp only[mkSt] at h1
   have h:p.length<(p++z::zs).length:=by simp
   have hlen:∀ y,(p++y::zs).length=(p++z::zs).length:=fun y=>by simp
   have hb:∀ (y:Strp) (c:Nat),c<5→Nat.ble (p.length * 5+c+1) (strps (p++y::zs)).length=true:=fun y c hc=>by
    rw[strps_length];apply le_ble;simp;omega
   have st:∀ (y z':Strp) (c:Nat) (v:T),c<5→stC z'=(stC y).set c v→setN (strps (p++y::zs)) (p.length * 5+c) [v]=strps (p++z'::zs):=fun y z' c v hc hy=>by
    rw[setN_one]
    have:=rows_set stC_length ⟨[],0,0,false,false⟩ (p++y::zs) p.length c v z' (by simp) hc (by simpa [List.getD] using hy)
    unfold strps
    rw[this];simp
   generalize hK:mkE z.es=K at *
   have w1:IntKind.i64.wrap (s+K+1)=s+K+1:=by rw[wrap64] <;>omega
   have w2:IntKind.i64.wrap (s+K+1+1)=s+K+2:=by rw[wrap64] <;>omega
   have w3:IntKind.i64.wrap (s+K+2+1)=s+K+3:=by rw[wrap64] <;>omega
   have w4:IntKind.i64.wrap (s+K+3+1)=s+K+4:=by rw[wrap64] <;>omega
   have em:=mks_e n z.es hz.2 hz.1 s h0 (by unfold mkE at hK;omega) hn
   have hK':s+2 * (z.es.length:Int)+(nmE z.es:Int)=s+K:=by rw[← hK];unfold mkE;omega
   rw[hK'] at em
   have e0:=st z ⟨marksE s z.es,z.tn,z.pan,z.mute,z.solo⟩ 0 (.lst z.es.length (effs (marksE s z.es))) (by decide) (by simp[stC,marksE_length])
   have e1:=st ⟨marksE s z.es,z.tn,z.pan,z.mute,z.solo⟩ ⟨marksE s z.es,s+K,z.pan,z.mute,z.solo⟩ 1 (.int .i64 (s+K)) (by decide) rfl
   have e2:=st ⟨marksE s z.es,s+K,z.pan,z.mute,z.solo⟩ ⟨marksE s z.es,s+K,FloatKind.f32.nearest (s+K+1),z.mute,z.solo⟩ 2 (.flt .f32 (FloatKind.f32.nearest (s+K+1))) (by decide) rfl
   have e3:=st ⟨marksE s z.es,s+K,FloatKind.f32.nearest (s+K+1),z.mute,z.solo⟩ ⟨marksE s z.es,s+K,FloatKind.f32.nearest (s+K+1),Int.tmod (s+K+2) 3==0,z.solo⟩ 3 (.bool (Int.tmod (s+K+2) 3==0)) (by decide) rfl
   have e4:=st ⟨marksE s z.es,s+K,FloatKind.f32.nearest (s+K+1),Int.tmod (s+K+2) 3==0,z.solo⟩ ⟨marksE s z.es,s+K,FloatKind.f32.nearest (s+K+1),Int.tmod (s+K+2) 3==0,Int.tmod (s+K+3) 3==0⟩ 4 (.bool (Int.tmod (s+K+3) 3==0)) (by decide) rfl
   have hat:sAt5 (p++z::zs) p.length=z:=by simp[sAt5,List.getD]
   have g3:(strps (p++z::zs))[p.length * 5+0]?=some (.lst z.es.length (effs z.es)):=by
    rw[st_get (c:=0) (by decide) _ _ h,hat];rfl
   have g4:okAt [.lst] (strps (p++z::zs)) (p.length * 5+0)=true:=by simp only[okAt,g3,isCK,Bool.and_self]
   have g5:nAt (strps (p++z::zs)) (p.length * 5+0)=z.es.length:=by unfold nAt;rw[g3]
   have g6:lAt (strps (p++z::zs)) (p.length * 5+0)=effs z.es:=by unfold lAt;rw[g3]
   have step:=ih (p++[⟨marksE s z.es,s+K,FloatKind.f32.nearest (s+K+1),Int.tmod (s+K+2) 3==0,Int.tmod (s+K+3) 3==0⟩]) (s+K+4) m (fun t ht=>hx t (by simp[ht])) (by omega) (by omega) (by simp at hp ⊢;omega) (by simp at hm;omega)
   rw[f116.l0,lt_mid,in_mid,toNat_len,wrap_len (z:=z) (show p.length<4611686018427387904 by simp at hp;omega)]
   simp only[br_t,gd_t,g4,Bool.and_self,g5,g6,em,bd_s,e0,hb _ 1 (by decide),e1,w1,hb _ 2 (by decide),e2,w2,hb _ 3 (by decide),e3,w3,hb _ 4 (by decide),e4,w4]
   have q1:(p++[(⟨marksE s z.es,s+K,FloatKind.f32.nearest (s+K+1),Int.tmod (s+K+2) 3==0,Int.tmod (s+K+3) 3==0⟩:Strp)])++zs=p++⟨marksE s z.es,s+K,FloatKind.f32.nearest (s+K+1),Int.tmod (s+K+2) 3==0,Int.tmod (s+K+3) 3==0⟩::zs:=by simp
   have q2:(p++[(⟨marksE s z.es,s+K,FloatKind.f32.nearest (s+K+1),Int.tmod (s+K+2) 3==0,Int.tmod (s+K+3) 3==0⟩:Strp)])++marksSt (s+K+4) zs=p++marksSt s (z::zs):=by simp[marksSt,hK]
   have q3:(p++[(⟨marksE s z.es,s+K,FloatKind.f32.nearest (s+K+1),Int.tmod (s+K+2) 3==0,Int.tmod (s+K+3) 3==0⟩:Strp)]).length=(p++[z]).length:=by simp
   rw[q1,q2,q3,hlen] at step
   rw[step]
   congr 3
   simp only[mkSt,hK];omega
theorem mks_st (n:Nat) (ss:List Strp) (hx:∀ s∈ss,s.es.length≤1048576∧∀ e∈s.es,e.nums.length≤1048576) (hl:ss.length≤1048576) (s:Int) (h0:0≤s) (h1:s+mkSt ss≤1099511627776) (hn:1048576<n) :
  f116 (n+3) ss.length (strps ss) s=some (s+mkSt ss,ss.length,strps (marksSt s ss)):=by
 have e:=mkl_st n hn ss [] s (n+2) hx h0 h1 (by simpa using hl) (by omega)
 have e:f116.l0 (n+2) (n+2) ss.length (strps ss) s 0=some (ss.length,strps (marksSt s ss),s+mkSt ss):=e
 rw[f116,e];rfl
theorem mk_sess (n:Nat) (cl:List Eff) (ss:List Strp) (h:Fin cl ss) (hn:1048576<n):f58 (n+4) cl.length (effs cl) ss.length (strps ss) 1=some (1+mkE cl+mkSt ss,cl.length,effs (marksE 1 cl),ss.length,strps (marksSt (1+mkE cl) ss)):=by
 have b1:=mkE_le cl
 have b2:=mkSt_le ss
 have b3:=mkE_nonneg cl
 have b4:=mkSt_nonneg ss
 have hc:=h.c
 have hs:=h.s
 have e1:=mks_c (n+1) cl (fin_c h).2 (fin_c h).1 1 (by omega) (by unfold mkE at b1;omega) (by omega)
 have e2:=mks_st n ss (fin_s h).2 (fin_s h).1 (1+mkE cl) (by omega) (by omega) hn
 have hq:(1:Int)+2 * (cl.length:Int)+(nmE cl:Int)=1+mkE cl:=by unfold mkE;omega
 rw[hq] at e1
 rw[f58,e1]
 simp only[bd_s,e2]
theorem hdl_e (n:Nat) (hn:1048576<n):∀ (zs p:List Eff) (s:Int) (m:Nat),(∀ e∈zs,e.nums.length≤1048576)→0≤s→s+mkE zs≤1099511627776→p.length+zs.length≤1048576→zs.length<m →
  f159.l0 (n+1) m (p++marksE s zs).length (effs (p++marksE s zs)) s (p.length:Int)=some (.inr (s+mkE zs)):=by
 intro zs
 induction zs with
 | nil =>
   intro p s m _ _ _ _ hm
   obtain ⟨m,rfl⟩:∃ k,m=k+1:=⟨m - 1,by omega⟩
   rw[f159.l0,show marksE s []=[] from rfl,lt_end]
   simp[br,mkE,nmE]
 | cons z zs ih =>
   intro p s m hx h0 h1 hp hm
   obtain ⟨m,rfl⟩:∃ k,m=k+1:=⟨m - 1,by omega⟩
   have hz:=hx z (by simp)
   have hk:mkE (z::zs)=2+(z.nums.length:Int)+mkE zs:=by simp only[mkE,nmE,List.length_cons];omega
   have hk0:=mkE_nonneg zs
   rw[hk] at h1 ⊢
   have hm1:marksE s (z::zs)=⟨s,s+1,marksF .f32 (s+2) z.nums.length⟩::marksE (s+2+(z.nums.length:Int)) zs:=rfl
   rw[hm1]
   generalize hQ:marksE (s+2+(z.nums.length:Int)) zs=Q
   have h:p.length<(p++(⟨s,s+1,marksF .f32 (s+2) z.nums.length⟩:Eff)::Q).length:=by simp
   have hat:eAt (p++(⟨s,s+1,marksF .f32 (s+2) z.nums.length⟩:Eff)::Q) p.length=⟨s,s+1,marksF .f32 (s+2) z.nums.length⟩:=by simp[eAt,List.getD]
   have w1:IntKind.i64.wrap (s+1)=s+1:=by rw[wrap64] <;>omega
   have w2:IntKind.i64.wrap (s+1+1)=s+2:=by rw[wrap64] <;>omega
   have e3:=held32 n z.nums.length (by omega) (s+2) (by omega) (by omega) (by omega)
   have step:=ih (p++[⟨s,s+1,marksF .f32 (s+2) z.nums.length⟩]) (s+2+(z.nums.length:Int)) m (fun e he=>hx e (by simp[he])) (by omega) (by omega) (by simp at hp ⊢;omega) (by simp at hm;omega)
   rw[hQ] at step
   have q1:(p++[(⟨s,s+1,marksF .f32 (s+2) z.nums.length⟩:Eff)])++Q=p++⟨s,s+1,marksF .f32 (s+2) z.nums.length⟩::Q:=by simp
   rw[q1] at step
   rw[f159.l0,lt_mid,in_mid,toNat_len,wrap_len (z:=(⟨s,s+1,marksF .f32 (s+2) z.nums.length⟩:Eff)) (show p.length<4611686018427387904 by simp at hp;omega),okE h]
   simp only[br_t,Bool.and_self,gd_t,kE h,gE h,nE h,lE h,hat,marksF_length,bne_self_eq_false,br_f,w1,w2,e3,bd_s,decide_eq_false (show ¬ (s+2+(z.nums.length:Int)<0) by omega)]
   rw[step]
   congr 2;omega
theorem hds_e (n:Nat) (es:List Eff) (hx:∀ e∈es,e.nums.length≤1048576) (hl:es.length≤1048576) (s:Int) (h0:0≤s) (h1:s+mkE es≤1099511627776) (hn:1048576<n) :
  f159 (n+2) es.length (effs (marksE s es)) s=some (s+mkE es):=by
 have e:=hdl_e n hn es [] s (n+1) hx h0 h1 (by simpa using hl) (by omega)
 simp only[List.nil_append,marksE_length] at e
 have e:f159.l0 (n+1) (n+1) es.length (effs (marksE s es)) s 0=_:=e
 rw[f159,e];rfl
theorem hdl_c (n:Nat) (hn:1048576<n):∀ (zs p:List Eff) (s:Int) (m:Nat),(∀ e∈zs,e.nums.length≤1048576)→0≤s→s+mkE zs≤1099511627776→p.length+zs.length≤1048576→zs.length<m →
  f117.l0 (n+1) m (p++marksE s zs).length (effs (p++marksE s zs)) s (p.length:Int)=some (.inr (s+mkE zs)):=by
 intro zs
 induction zs with
 | nil =>
   intro p s m _ _ _ _ hm
   obtain ⟨m,rfl⟩:∃ k,m=k+1:=⟨m - 1,by omega⟩
   rw[f117.l0,show marksE s []=[] from rfl,lt_end]
   simp[br,mkE,nmE]
 | cons z zs ih =>
   intro p s m hx h0 h1 hp hm
   obtain ⟨m,rfl⟩:∃ k,m=k+1:=⟨m - 1,by omega⟩
   have hz:=hx z (by simp)
   have hk:mkE (z::zs)=2+(z.nums.length:Int)+mkE zs:=by simp only[mkE,nmE,List.length_cons];omega
   have hk0:=mkE_nonneg zs
   rw[hk] at h1 ⊢
   have hm1:marksE s (z::zs)=⟨s,s+1,marksF .f32 (s+2) z.nums.length⟩::marksE (s+2+(z.nums.length:Int)) zs:=rfl
   rw[hm1]
   generalize hQ:marksE (s+2+(z.nums.length:Int)) zs=Q
   have h:p.length<(p++(⟨s,s+1,marksF .f32 (s+2) z.nums.length⟩:Eff)::Q).length:=by simp
   have hat:eAt (p++(⟨s,s+1,marksF .f32 (s+2) z.nums.length⟩:Eff)::Q) p.length=⟨s,s+1,marksF .f32 (s+2) z.nums.length⟩:=by simp[eAt,List.getD]
   have w1:IntKind.i64.wrap (s+1)=s+1:=by rw[wrap64] <;>omega
   have w2:IntKind.i64.wrap (s+1+1)=s+2:=by rw[wrap64] <;>omega
   have e3:=held32 n z.nums.length (by omega) (s+2) (by omega) (by omega) (by omega)
   have step:=ih (p++[⟨s,s+1,marksF .f32 (s+2) z.nums.length⟩]) (s+2+(z.nums.length:Int)) m (fun e he=>hx e (by simp[he])) (by omega) (by omega) (by simp at hp ⊢;omega) (by simp at hm;omega)
   rw[hQ] at step
   have q1:(p++[(⟨s,s+1,marksF .f32 (s+2) z.nums.length⟩:Eff)])++Q=p++⟨s,s+1,marksF .f32 (s+2) z.nums.length⟩::Q:=by simp
   rw[q1] at step
   rw[f117.l0,lt_mid,in_mid,toNat_len,wrap_len (z:=(⟨s,s+1,marksF .f32 (s+2) z.nums.length⟩:Eff)) (show p.length<4611686018427387904 by simp at hp;omega),okE h]
   simp only[br_t,Bool.and_self,gd_t,kE h,gE h,nE h,lE h,hat,marksF_length,bne_self_eq_false,br_f,w1,w2,e3,bd_s,decide_eq_false (show ¬ (s+2+(z.nums.length:Int)<0) by omega)]
   rw[step]
   congr 2;omega
theorem hds_c (n:Nat) (es:List Eff) (hx:∀ e∈es,e.nums.length≤1048576) (hl:es.length≤1048576) (s:Int) (h0:0≤s) (h1:s+mkE es≤1099511627776) (hn:1048576<n) :
  f117 (n+2) es.length (effs (marksE s es)) s=some (s+mkE es):=by
 have e:=hdl_c n hn es [] s (n+1) hx h0 h1 (by simpa using hl) (by omega)
 simp only[List.nil_append,marksE_length] at e
 have e:f117.l0 (n+1) (n+1) es.length (effs (marksE s es)) s 0=_:=e
 rw[f117,e];rfl
theorem marksSt_length:∀ (ss:List Strp) (s:Int),(marksSt s ss).length=ss.length
 | [],_=>rfl
 | t::ts,s=>by simp[marksSt,marksSt_length ts]
theorem hdl_st (n:Nat) (hn:1048576<n):∀ (zs p:List Strp) (s:Int) (m:Nat),(∀ t∈zs,t.es.length≤1048576∧∀ e∈t.es,e.nums.length≤1048576)→0≤s→s+mkSt zs≤1099511627776→p.length+zs.length≤1048576→zs.length<m →
  f118.l0 (n+2) m (p++marksSt s zs).length (strps (p++marksSt s zs)) s (p.length:Int)=some (.inr (s+mkSt zs)):=by
 intro zs
 induction zs with
 | nil =>
   intro p s m _ _ _ _ hm
   obtain ⟨m,rfl⟩:∃ k,m=k+1:=⟨m - 1,by omega⟩
   rw[f118.l0,show marksSt s []=[] from rfl,lt_end]
   simp[br,mkSt]
 | cons z zs ih =>
   intro p s m hx h0 h1 hp hm
   obtain ⟨m,rfl⟩:∃ k,m=k+1:=⟨m - 1,by omega⟩
   have hz:=hx z (by simp)
   have hmk:=mkE_nonneg z.es
   have hmk2:=mkSt_nonneg zs
   simp only[mkSt] at h1 ⊢
   have em:=hds_e n z.es hz.2 hz.1 s h0 (by omega) hn
   generalize hK:mkE z.es=K at *
   obtain ⟨Y,hY⟩:∃ Y:Strp,Y=⟨marksE s z.es,s+K,FloatKind.f32.nearest (s+K+1),Int.tmod (s+K+2) 3==0,Int.tmod (s+K+3) 3==0⟩:=⟨_,rfl⟩
   have hm1:marksSt s (z::zs)=Y::marksSt (s+K+4) zs:=by rw[hY,marksSt,hK]
   rw[hm1]
   generalize hQ:marksSt (s+K+4) zs=Q
   have h:p.length<(p++Y::Q).length:=by simp
   have hat:sAt5 (p++Y::Q) p.length=Y:=by simp[sAt5,List.getD]
   have w1:IntKind.i64.wrap (s+K+1)=s+K+1:=by rw[wrap64] <;>omega
   have w2:IntKind.i64.wrap (s+K+1+1)=s+K+2:=by rw[wrap64] <;>omega
   have w3:IntKind.i64.wrap (s+K+2+1)=s+K+3:=by rw[wrap64] <;>omega
   have w4:IntKind.i64.wrap (s+K+3+1)=s+K+4:=by rw[wrap64] <;>omega
   have y1:Y.es=marksE s z.es:=by rw[hY]
   have y2:Y.tn=s+K:=by rw[hY]
   have y3:Y.pan=FloatKind.f32.nearest (s+K+1):=by rw[hY]
   have y4:Y.mute=(Int.tmod (s+K+2) 3==0):=by rw[hY]
   have y5:Y.solo=(Int.tmod (s+K+3) 3==0):=by rw[hY]
   have step:=ih (p++[Y]) (s+K+4) m (fun t ht=>hx t (by simp[ht])) (by omega) (by omega) (by simp at hp ⊢;omega) (by simp at hm;omega)
   rw[hQ] at step
   have q1:(p++[Y])++Q=p++Y::Q:=by simp
   rw[q1] at step
   rw[f118.l0,lt_mid,in_mid,toNat_len,wrap_len (z:=Y) (show p.length<4611686018427387904 by simp at hp;omega),okS5 h]
   simp only[br_t,Bool.and_self,gd_t,nS5 h,lS5 h,tS5 h,pS5 h,mS5 h,oS5 h,hat,y1,marksE_length,em,bd_s,decide_eq_false (show ¬ (s+K<0) by omega),br_f,y2,bne_self_eq_false,w1,y3,nearest_fne,w2,y4,beq_self_eq_true,Bool.not_true,w3,y5,w4]
   rw[step]
   congr 2;omega
theorem hds_st (n:Nat) (ss:List Strp) (hx:∀ s∈ss,s.es.length≤1048576∧∀ e∈s.es,e.nums.length≤1048576) (hl:ss.length≤1048576) (s:Int) (h0:0≤s) (h1:s+mkSt ss≤1099511627776) (hn:1048576<n) :
  f118 (n+3) ss.length (strps (marksSt s ss)) s=some (s+mkSt ss):=by
 have e:=hdl_st n hn ss [] s (n+2) hx h0 h1 (by simpa using hl) (by omega)
 simp only[List.nil_append,marksSt_length] at e
 have e:f118.l0 (n+2) (n+2) ss.length (strps (marksSt s ss)) s 0=_:=e
 rw[f118,e];rfl
theorem hd_sess (n:Nat) (cl:List Eff) (ss:List Strp) (h:Fin cl ss) (hn:1048576<n):f59 (n+4) cl.length (effs (marksE 1 cl)) ss.length (strps (marksSt (1+mkE cl) ss)) 1=some (1+mkE cl+mkSt ss):=by
 have b1:=mkE_le cl
 have b2:=mkSt_le ss
 have b3:=mkE_nonneg cl
 have b4:=mkSt_nonneg ss
 have hc:=h.c
 have hs:=h.s
 have e1:=hds_c (n+1) cl (fin_c h).2 (fin_c h).1 1 (by omega) (by omega) (by omega)
 have e2:=hds_st n ss (fin_s h).2 (fin_s h).1 (1+mkE cl) (by omega) (by omega) hn
 rw[f59,e1]
 simp only[bd_s,e2,decide_eq_false (show ¬ (1+mkE cl<0) by omega),decide_eq_false (show ¬ (1+mkE cl+mkSt ss<0) by omega),br_f]
section
variable {E:Env} {tE tI tF tFs tEs tSt tCs tSs tS tC tB o1 o2 o3 o4 o5:Nat} {dE dI dF dFs dEs dSt dCs dSs dS dC dB:TD}
theorem effs_inv (hE:E.ty tE=some dE) (kE:dE.kd = .st [(o1,tI),(o2,tI),(o3,tFs)]) (hI:E.ty tI=some dI) (kI:dI.kd = .int .i64) (hFs:E.ty tFs=some dFs) (kFs:dFs.kd = .slc tF) (hF:E.ty tF=some dF) (kF:dF.kd = .flt .f32) :
  ∀ (n:Nat) (cs:List T),WTs E tE n cs→∃ es:List Eff,cs=effs es∧n=es.length∧∀ e∈es,GoodE e∧e.nums.length≤maxLen:=by
 intro n
 induction n with
 | zero=>intro cs h;cases h;exact ⟨[],rfl,rfl,by simp⟩
 | succ n ih =>
   intro cs h
   cases h with
   | snoc h hc =>
     obtain ⟨es,rfl,rfl,hx⟩:=ih _ h
     have hf:=hc.st_inv hE kE
     cases hf with
     | cons h1 r1 =>
       cases r1 with
       | cons h2 r2 =>
         cases r2 with
         | cons h3 r3 =>
           cases r3
           obtain ⟨a,rfl,ga⟩:=h1.int_inv hI kI
           obtain ⟨b,rfl,gb⟩:=h2.int_inv hI kI
           obtain ⟨k,us,rfl,gl,hu⟩:=h3.slc_inv hFs kFs
           obtain ⟨xs,rfl,rfl,gx⟩:=hu.flts hF kF
           refine ⟨es++[⟨a,b,xs⟩],?_,by simp,fun e he => ?_⟩
           ·unfold effs
            rw[List.flatMap_append];rfl
           ·simp only[List.mem_append,List.mem_singleton] at he
            rcases he with he | rfl
            ·exact hx e he
            ·exact ⟨⟨ga,gb,fun x hx=>(gx x hx).w32⟩,gl⟩
theorem strps_inv (hSt:E.ty tSt=some dSt) (kSt:dSt.kd = .st [(o1,tEs),(o2,tI),(o3,tF),(o4,tB),(o5,tB)]) (hB:E.ty tB=some dB) (kB:dB.kd = .bool) (hEs:E.ty tEs=some dEs) (kEs:dEs.kd = .slc tE) {p1 p2 p3:Nat}
  (hE:E.ty tE=some dE) (kE:dE.kd = .st [(p1,tI),(p2,tI),(p3,tFs)]) (hI:E.ty tI=some dI) (kI:dI.kd = .int .i64) (hFs:E.ty tFs=some dFs) (kFs:dFs.kd = .slc tF) (hF:E.ty tF=some dF) (kF:dF.kd = .flt .f32) :
  ∀ (n:Nat) (cs:List T),WTs E tSt n cs→∃ ss:List Strp,cs=strps ss∧n=ss.length∧∀ s∈ss,((∀ e∈s.es,GoodE e)∧GoodI .i64 s.tn∧W32 s.pan)∧s.es.length≤maxLen∧∀ e∈s.es,e.nums.length≤maxLen:=by
 intro n
 induction n with
 | zero=>intro cs h;cases h;exact ⟨[],rfl,rfl,by simp⟩
 | succ n ih =>
   intro cs h
   cases h with
   | snoc h hc =>
     obtain ⟨ss,rfl,rfl,hx⟩:=ih _ h
     have hf:=hc.st_inv hSt kSt
     cases hf with
     | cons h1 r1 =>
       cases r1 with
       | cons h2 r2 =>
         cases r2 with
         | cons h3 r3 =>
           cases r3 with
           | cons h4 r4 =>
             cases r4 with
             | cons h5 r5 =>
               cases r5
               obtain ⟨k,us,rfl,gl,hu⟩:=h1.slc_inv hEs kEs
               obtain ⟨es,rfl,rfl,ge⟩:=effs_inv hE kE hI kI hFs kFs hF kF _ _ hu
               obtain ⟨a,rfl,ga⟩:=h2.int_inv hI kI
               obtain ⟨p,rfl,gp⟩:=h3.flt_inv hF kF
               obtain ⟨b,rfl⟩:=h4.bool_inv hB kB
               obtain ⟨c,rfl⟩:=h5.bool_inv hB kB
               refine ⟨ss++[⟨es,a,p,b,c⟩],?_,by simp,fun s hs => ?_⟩
               ·unfold strps
                rw[List.flatMap_append];rfl
               ·simp only[List.mem_append,List.mem_singleton] at hs
                rcases hs with hs | rfl
                ·exact hx s hs
                ·exact ⟨⟨fun e he=>(ge e he).1,ga,gp.w32⟩,gl,fun e he=>(ge e he).2⟩
theorem session_inv (hS:E.ty tS=some dS) {q1 q2:Nat} (kS:dS.kd = .st [(q1,tCs),(q2,tSs)]) (hCs:E.ty tCs=some dCs) (kCs:dCs.kd = .slc tC) (hC:E.ty tC=some dC) {r1 r2 r3:Nat} (kC:dC.kd = .st [(r1,tI),(r2,tI),(r3,tFs)])
  (hSs:E.ty tSs=some dSs) (kSs:dSs.kd = .slc tSt)
  (hSt:E.ty tSt=some dSt) (kSt:dSt.kd = .st [(o1,tEs),(o2,tI),(o3,tF),(o4,tB),(o5,tB)]) (hB:E.ty tB=some dB) (kB:dB.kd = .bool) (hEs:E.ty tEs=some dEs) (kEs:dEs.kd = .slc tE) {p1 p2 p3:Nat}
  (hE:E.ty tE=some dE) (kE:dE.kd = .st [(p1,tI),(p2,tI),(p3,tFs)]) (hI:E.ty tI=some dI) (kI:dI.kd = .int .i64) (hFs:E.ty tFs=some dFs) (kFs:dFs.kd = .slc tF) (hF:E.ty tF=some dF) (kF:dF.kd = .flt .f32) {ts:List T} (h:WT E tS ts) :
  ∃ (cl:List Eff) (ss:List Strp),ts=[.lst cl.length (effs cl),.lst ss.length (strps ss)]∧GoodS cl ss∧Huge cl ss:=by
 have hm:maxLen≤9223372036854775807:=by decide
 have hf:=h.st_inv hS kS
 cases hf with
 | cons h1 r1 =>
   cases r1 with
   | cons h2 r2 =>
     cases r2
     obtain ⟨k,us,rfl,gl,hu⟩:=h1.slc_inv hCs kCs
     obtain ⟨cl,rfl,rfl,gc⟩:=effs_inv hC kC hI kI hFs kFs hF kF _ _ hu
     obtain ⟨k2,us2,rfl,gl2,hu2⟩:=h2.slc_inv hSs kSs
     obtain ⟨ss,rfl,rfl,gs⟩:=strps_inv hSt kSt hB kB hEs kEs hE kE hI kI hFs kFs hF kF _ _ hu2
     exact ⟨cl,ss,rfl,⟨fun c hc=>(gc c hc).1,fun s hs=>(gs s hs).1⟩,⟨by omega,fun e he=>Nat.le_trans (gc e he).2 hm,by omega,fun s hs=>⟨Nat.le_trans (gs s hs).2.1 hm,fun e he=>Nat.le_trans ((gs s hs).2.2 e he) hm⟩⟩⟩
end
theorem i_copychain_loop (n:Nat) (N:Nat) (ts:List T) (cs:List Eff) (hl:cs.length≤100) (hx:∀ e∈cs,e.nums.length≤1000):∀ (j i m:Nat) (P:List Eff),i+j=cs.length→P.length≤i→j<m →
  f78.l0 (n+1) m N ts P.length (effs P) cs.length (effs cs) (cs.length:Int) (i:Int)=some ((P++cs.drop i).length,effs (P++cs.drop i)):=by
 intro j
 induction j with
 | zero =>
   intro i m P hi hP hm
   obtain ⟨m,rfl⟩:∃ k,m=k+1:=⟨m - 1,by omega⟩
   rw[f78.l0,nlt_dec (by omega),List.drop_eq_nil_of_le (by omega),List.append_nil];rfl
 | succ j ih =>
   intro i m P hi hP hm
   obtain ⟨m,rfl⟩:∃ k,m=k+1:=⟨m - 1,by omega⟩
   have h:i<cs.length:=by omega
   have g:=i_copy n (eAt cs i).nums (by have:=hx _ (eAt_mem h);omega)
   have hp:=push_eff P (eAt cs i)
   unfold effC at hp
   rw[f78.l0,lt_dec h,in_dec h,Int.toNat_natCast,okE h]
   simp only[br_t,Bool.and_self,gd_t,kE h,gE h,nE h,lE h,g,bd_s,push_ok (show P.length<2147483648 by omega),hp]
   rw[push_len (z:=eAt cs i),wrap_succ (show i<9223372036854775807 by omega),ih (i+1) m _ (by omega) (by simp;omega) (by omega),eff_drop h]
   simp
theorem i_copychain (n:Nat) (hn:200<n) (cs:List Eff) (hl:cs.length≤100) (hx:∀ e∈cs,e.nums.length≤1000):f78 (n+2) cs.length (effs cs)=some (cs.length,effs cs):=by
 have e:=i_copychain_loop n cs.length (effs cs) cs hl hx cs.length 0 (n+1) [] (by omega) (by simp) (by omega)
 simp only[List.drop_zero,List.nil_append] at e
 have e:f78.l0 (n+1) (n+1) cs.length (effs cs) 0 [] cs.length (effs cs) (cs.length:Int) 0=_:=e
 rw[f78,e];rfl
theorem push_st (acc:List Strp) (s:Strp):strps acc++setN (reps 1 [(T.lst 0 []),(T.int .i64 (0:Int)),(T.flt .f32 0),(T.bool false),(T.bool false)]) 0 (stC s)=strps (acc++[s]):=by
 unfold strps
 rw[List.flatMap_append,List.flatMap_singleton];rfl
theorem i_own0 (n:Nat) (N1:Nat) (t1:List T) (N3:Nat) (t3:List T) (N5:Nat) (t5:List T) (N7:Nat) (t7:List T) (N11:Nat) (t11:List T) (cs:List Eff) (hl:cs.length≤100) (hx:∀ e∈cs,e.nums.length≤1000):∀ (j i m:Nat) (P:List Eff),i+j=cs.length→P.length≤i→j<m →
  f103.l0 (n+1) m N1 t1 N3 t3 N5 t5 N7 t7 P.length (effs P) N11 t11 cs.length (effs cs) (cs.length:Int) (i:Int)=some (N1,t1,N3,t3,N5,t5,N7,t7,(P++cs.drop i).length,effs (P++cs.drop i),N11,t11):=by
 intro j
 induction j with
 | zero =>
   intro i m P hi hP hm
   obtain ⟨m,rfl⟩:∃ k,m=k+1:=⟨m - 1,by omega⟩
   rw[f103.l0,nlt_dec (by omega),List.drop_eq_nil_of_le (by omega),List.append_nil];rfl
 | succ j ih =>
   intro i m P hi hP hm
   obtain ⟨m,rfl⟩:∃ k,m=k+1:=⟨m - 1,by omega⟩
   have h:i<cs.length:=by omega
   have g:=i_copy n (eAt cs i).nums (by have:=hx _ (eAt_mem h);omega)
   have hp:=push_eff P (eAt cs i)
   unfold effC at hp
   rw[f103.l0,lt_dec h,in_dec h,Int.toNat_natCast,okE h]
   simp only[br_t,Bool.and_self,gd_t,kE h,gE h,nE h,lE h,g,bd_s,push_ok (show P.length<2147483648 by omega),hp]
   rw[push_len (z:=eAt cs i),wrap_succ (show i<9223372036854775807 by omega),ih (i+1) m _ (by omega) (by simp;omega) (by omega),eff_drop h]
   simp
theorem i_own1 (n:Nat) (hn:200<n) (N1:Nat) (t1:List T) (N3:Nat) (t3:List T) (N5:Nat) (t5:List T) (N7:Nat) (t7:List T) (N9:Nat) (t9:List T) (ss:List Strp) (hl:ss.length≤100) (hx:∀ s∈ss,s.es.length≤100∧∀ e∈s.es,e.nums.length≤1000):∀ (j i m:Nat) (P:List Strp),i+j=ss.length→P.length≤i→j<m →
  f103.l1 (n+2) m N1 t1 N3 t3 N5 t5 N7 t7 N9 t9 P.length (strps P) ss.length (strps ss) (ss.length:Int) (i:Int)=some (N5,t5,N7,t7,N9,t9,(P++ss.drop i).length,strps (P++ss.drop i)):=by
 intro j
 induction j with
 | zero =>
   intro i m P hi hP hm
   obtain ⟨m,rfl⟩:∃ k,m=k+1:=⟨m - 1,by omega⟩
   rw[f103.l1,nlt_dec (by omega),List.drop_eq_nil_of_le (by omega),List.append_nil];rfl
 | succ j ih =>
   intro i m P hi hP hm
   obtain ⟨m,rfl⟩:∃ k,m=k+1:=⟨m - 1,by omega⟩
   have h:i<ss.length:=by omega
   have hs:=hx _ (sAt5_mem h)
   have g:=i_copychain n hn (sAt5 ss i).es hs.1 hs.2
   have hp:=push_st P (sAt5 ss i)
   unfold stC at hp
   rw[f103.l1,lt_dec h,in_dec h,Int.toNat_natCast,okS5 h]
   simp only[br_t,Bool.and_self,gd_t,nS5 h,lS5 h,tS5 h,pS5 h,mS5 h,oS5 h,g,bd_s,push_ok (show P.length<2147483648 by omega),hp]
   rw[push_len (z:=sAt5 ss i),wrap_succ (show i<9223372036854775807 by omega),ih (i+1) m _ (by omega) (by simp;omega) (by omega),st_drop h]
   simp
theorem i_own (n:Nat) (hn:200<n) (cs:List Eff) (ss:List Strp) (hl:cs.length≤100) (hx:∀ e∈cs,e.nums.length≤1000) (hl2:ss.length≤100) (hx2:∀ s∈ss,s.es.length≤100∧∀ e∈s.es,e.nums.length≤1000) :
  f103 (n+3) cs.length (effs cs) ss.length (strps ss)=some (cs.length,effs cs,ss.length,strps ss):=by
 have e0:=i_own0 (n+1) cs.length (effs cs) ss.length (strps ss) 0 [] 0 [] 0 [] cs hl hx cs.length 0 (n+2) [] (by omega) (by simp) (by omega)
 have e0:f103.l0 (n+2) (n+2) cs.length (effs cs) ss.length (strps ss) 0 [] 0 [] 0 [] 0 [] cs.length (effs cs) (cs.length:Int) 0=_:=e0
 have e1:=i_own1 n hn cs.length (effs cs) ss.length (strps ss) 0 [] 0 [] cs.length (effs cs) ss hl2 hx2 ss.length 0 (n+2) [] (by omega) (by simp) (by omega)
 have e1:f103.l1 (n+2) (n+2) cs.length (effs cs) ss.length (strps ss) 0 [] 0 [] cs.length (effs cs) 0 [] ss.length (strps ss) (ss.length:Int) 0=_:=e1
 simp only[List.drop_zero,List.nil_append] at e0 e1
 rw[f103,e0]
 simp only[bd_s,e1]
theorem s_own3 (n:Nat) (xs:List Nat) (h:xs.length≤2147483648):f119 (n+1) xs.length (fls .f32 xs)=some (xs.length,fls .f32 xs):=by
 rw[f119,Nat.zero_add,le_ble h];rfl
theorem s_clip9 (n:Nat) (e:Eff) (h:e.nums.length≤2147483648):f108 (n+2) e.kind e.len e.nums.length (fls .f32 e.nums)=some (e.kind,e.len,e.nums.length,fls .f32 e.nums):=by
 rw[f108,s_own3 n e.nums h];rfl
theorem s_effs9_loop (n:Nat) (cs:List Eff) (hl:cs.length≤100) (hx:∀ e∈cs,e.nums.length≤1000):∀ (j i m:Nat) (P:List Eff),i+j=cs.length→P.length≤i→j<m →
  f149.l0 (n+1) m cs.length (effs cs) P.length (effs P) (cs.length:Int) (i:Int)=some ((P++cs.drop i).length,effs (P++cs.drop i)):=by
 intro j
 induction j with
 | zero =>
   intro i m P hi hP hm
   obtain ⟨m,rfl⟩:∃ k,m=k+1:=⟨m - 1,by omega⟩
   rw[f149.l0,nlt_dec (by omega),List.drop_eq_nil_of_le (by omega),List.append_nil];rfl
 | succ j ih =>
   intro i m P hi hP hm
   obtain ⟨m,rfl⟩:∃ k,m=k+1:=⟨m - 1,by omega⟩
   have h:i<cs.length:=by omega
   have g:=s_own3 n (eAt cs i).nums (by have:=hx _ (eAt_mem h);omega)
   have hp:=push_eff P (eAt cs i)
   unfold effC at hp
   rw[f149.l0,lt_dec h,in_dec h,Int.toNat_natCast,okE h]
   simp only[br_t,Bool.and_self,gd_t,kE h,gE h,nE h,lE h,g,bd_s,push_ok (show P.length<2147483648 by omega),hp]
   rw[push_len (z:=eAt cs i),wrap_succ (show i<9223372036854775807 by omega),ih (i+1) m _ (by omega) (by simp;omega) (by omega),eff_drop h]
   simp
theorem s_effs9 (n:Nat) (hn:200<n) (cs:List Eff) (hl:cs.length≤100) (hx:∀ e∈cs,e.nums.length≤1000):f149 (n+2) cs.length (effs cs)=some (cs.length,effs cs):=by
 have e:=s_effs9_loop n cs hl hx cs.length 0 (n+1) [] (by omega) (by simp) (by omega)
 simp only[List.drop_zero,List.nil_append] at e
 have e:f149.l0 (n+1) (n+1) cs.length (effs cs) 0 (reps 0 [(T.int .i64 (0:Int)),(T.int .i64 (0:Int)),(T.lst 0 [])]) (cs.length:Int) 0=_:=e
 rw[f149,e];rfl
theorem s_own0 (n:Nat) (N3:Nat) (t3:List T) (N5:Nat) (t5:List T) (N7:Nat) (t7:List T) (N11:Nat) (t11:List T) (cs:List Eff) (hl:cs.length≤100) (hx:∀ e∈cs,e.nums.length≤1000):∀ (j i m:Nat) (P:List Eff),i+j=cs.length→P.length≤i→j<m →
  f107.l0 (n+2) m cs.length (effs cs) N3 t3 N5 t5 N7 t7 P.length (effs P) N11 t11 (cs.length:Int) (i:Int)=some (cs.length,effs cs,N3,t3,N5,t5,N7,t7,(P++cs.drop i).length,effs (P++cs.drop i),N11,t11):=by
 intro j
 induction j with
 | zero =>
   intro i m P hi hP hm
   obtain ⟨m,rfl⟩:∃ k,m=k+1:=⟨m - 1,by omega⟩
   rw[f107.l0,nlt_dec (by omega),List.drop_eq_nil_of_le (by omega),List.append_nil];rfl
 | succ j ih =>
   intro i m P hi hP hm
   obtain ⟨m,rfl⟩:∃ k,m=k+1:=⟨m - 1,by omega⟩
   have h:i<cs.length:=by omega
   have g:=s_clip9 n (eAt cs i) (by have:=hx _ (eAt_mem h);omega)
   have hp:=push_eff P (eAt cs i)
   unfold effC at hp
   rw[f107.l0,lt_dec h,in_dec h,Int.toNat_natCast,okE h]
   simp only[br_t,Bool.and_self,gd_t,kE h,gE h,nE h,lE h,g,bd_s,push_ok (show P.length<2147483648 by omega),hp]
   rw[push_len (z:=eAt cs i),wrap_succ (show i<9223372036854775807 by omega),ih (i+1) m _ (by omega) (by simp;omega) (by omega),eff_drop h]
   simp
theorem s_own1 (n:Nat) (hn:200<n) (N1:Nat) (t1:List T) (N5:Nat) (t5:List T) (N7:Nat) (t7:List T) (N9:Nat) (t9:List T) (ss:List Strp) (hl:ss.length≤100) (hx:∀ s∈ss,s.es.length≤100∧∀ e∈s.es,e.nums.length≤1000):∀ (j i m:Nat) (P:List Strp),i+j=ss.length→P.length≤i→j<m →
  f107.l1 (n+2) m N1 t1 ss.length (strps ss) N5 t5 N7 t7 N9 t9 P.length (strps P) (ss.length:Int) (i:Int)=some (N5,t5,N7,t7,N9,t9,(P++ss.drop i).length,strps (P++ss.drop i)):=by
 intro j
 induction j with
 | zero =>
   intro i m P hi hP hm
   obtain ⟨m,rfl⟩:∃ k,m=k+1:=⟨m - 1,by omega⟩
   rw[f107.l1,nlt_dec (by omega),List.drop_eq_nil_of_le (by omega),List.append_nil];rfl
 | succ j ih =>
   intro i m P hi hP hm
   obtain ⟨m,rfl⟩:∃ k,m=k+1:=⟨m - 1,by omega⟩
   have h:i<ss.length:=by omega
   have hs:=hx _ (sAt5_mem h)
   have g:=s_effs9 n hn (sAt5 ss i).es hs.1 hs.2
   have hp:=push_st P (sAt5 ss i)
   unfold stC at hp
   rw[f107.l1,lt_dec h,in_dec h,Int.toNat_natCast,okS5 h]
   simp only[br_t,Bool.and_self,gd_t,nS5 h,lS5 h,tS5 h,pS5 h,mS5 h,oS5 h,g,bd_s,push_ok (show P.length<2147483648 by omega),hp]
   rw[push_len (z:=sAt5 ss i),wrap_succ (show i<9223372036854775807 by omega),ih (i+1) m _ (by omega) (by simp;omega) (by omega),st_drop h]
   simp
theorem s_ownq (n:Nat) (hn:200<n) (cs:List Eff) (ss:List Strp) (hl:cs.length≤100) (hx:∀ e∈cs,e.nums.length≤1000) (hl2:ss.length≤100) (hx2:∀ s∈ss,s.es.length≤100∧∀ e∈s.es,e.nums.length≤1000) :
  f107 (n+3) cs.length (effs cs) ss.length (strps ss)=some (cs.length,effs cs,ss.length,strps ss):=by
 have e0:=s_own0 n ss.length (strps ss) 0 [] 0 [] 0 [] cs hl hx cs.length 0 (n+2) [] (by omega) (by simp) (by omega)
 have e0:f107.l0 (n+2) (n+2) cs.length (effs cs) ss.length (strps ss) 0 [] 0 [] 0 (reps 0 [(T.int .i64 (0:Int)),(T.int .i64 (0:Int)),(T.lst 0 [])]) 0 (reps 0 [(T.lst 0 []),(T.int .i64 (0:Int)),(T.flt .f32 0),(T.bool false),(T.bool false)]) (cs.length:Int) 0=_:=e0
 have e1:=s_own1 n hn cs.length (effs cs) 0 [] 0 [] cs.length (effs cs) ss hl2 hx2 ss.length 0 (n+2) [] (by omega) (by simp) (by omega)
 have e1:f107.l1 (n+2) (n+2) cs.length (effs cs) ss.length (strps ss) 0 [] 0 [] cs.length (effs cs) 0 [] (ss.length:Int) 0=_:=e1
 simp only[List.drop_zero,List.nil_append] at e0 e1
 rw[f107,e0]
 simp only[bd_s,e1]
theorem szE_app:∀ (a b:List Eff),szE (a++b)=szE a+szE b
 | [],b=>by simp[szE]
 | e::a,b=>by simp only[List.cons_append,szE,szE_app a b];omega
theorem szE_few:∀ (a:List Eff),(∀ e∈a,e.nums.length≤256)→szE a≤257 * a.length
 | [],_=>by simp[szE]
 | e::a,h=>by
   have:=szE_few a (fun x hx=>h x (by simp[hx]))
   have:=h e (by simp)
   simp only[szE,List.length_cons];omega
theorem eff_small (e:Ef):e.eff.nums.length≤10:=by cases e <;>simp[Ef.eff]
theorem strips_small {cl:List Eff} {ss:List Strp} (hok:SOk cl ss) (hg:GoodS cl ss):∀ s∈ss,s.es.length≤100∧∀ e∈s.es,e.nums.length≤1000:=by
 intro s hs
 obtain ⟨fs,g1,g2,g3⟩:=strip_efs hok hg hs
 refine ⟨by rw[← g1,effL_length];omega,fun e he => ?_⟩
 rw[← g1] at he
 obtain ⟨f,-,rfl⟩:=List.mem_map.1 he
 have:=eff_small f;omega
theorem i_checkedq (n:Nat) (hn:200<n) (C:List Eff) (S:List Strp):f104 (n+7) C.length (effs C) S.length (strps S)=some (if sessB C S=true then .inr (C.length,effs C,S.length,strps S,true,C.length,effs C,S.length,strps S) else .inl (0,[],0,[],false,C.length,effs C,S.length,strps S)):=by
 rw[f104,i_sessB n C S (by omega),bd_s]
 cases sessB C S <;>rfl
def repG (kind:Int) (at_:Int) (nums:List Nat):Nat→List Eff
 | 0=>[]
 | r+1=>⟨kind,at_+(nums.length:Int),nums⟩::repG kind (at_+(nums.length:Int)) nums r
theorem repG_length (kind:Int) (nums:List Nat):∀ (r:Nat) (at_:Int),(repG kind at_ nums r).length=r
 | 0,_=>rfl
 | r+1,at_=>by simp[repG,repG_length kind nums r]
theorem repG_nums (kind:Int) (nums:List Nat):∀ (r:Nat) (at_:Int),∀ e∈repG kind at_ nums r,e.nums=nums
 | 0,_,e,h=>by simp[repG] at h
 | r+1,at_,e,h=>by
   rcases List.mem_cons.1 h with rfl | h
   ·rfl
   ·exact repG_nums kind nums r _ e h
theorem i_end (n:Nat) (c:Eff) (h:c.nums.length≤1000) (h0:0≤c.len) (h1:c.len≤1000000):f102 (n+2) c.kind c.len c.nums.length (fls .f32 c.nums)=some (c.len+(c.nums.length:Int)):=by
 rw[f102,f87]
 simp only[bd_s]
 rw[wrap64] <;>omega
theorem i_rep_loopb (n:Nat) (kind:Int) (nums:List Nat) (hl:nums.length≤1000) (N2:Nat) (t2:List T) (N4:Nat) (t4:List T) (N8:Nat) (t8:List T):∀ (r m:Nat) (P:List Eff) (at_:Int),0≤at_→at_+1000 * (r:Int)≤1000000→P.length+r≤1000→r<m →
  f53.l0b (n+2) m (r:Int) N2 t2 N4 t4 P.length (effs P) N8 t8 kind at_ nums.length (fls .f32 nums)=some (N2,t2,N4,t4,(P++repG kind at_ nums r).length,effs (P++repG kind at_ nums r),N8,t8):=by
 intro r
 induction r with
 | zero =>
   intro m P at_ _ _ _ hm
   obtain ⟨m,rfl⟩:∃ k,m=k+1:=⟨m - 1,by omega⟩
   rw[f53.l0b,show decide (((0:Nat):Int)>0)=false from rfl,br_f,repG,List.append_nil]
 | succ r ih =>
   intro m P at_ h0 h1 hp hm
   obtain ⟨m,rfl⟩:∃ k,m=k+1:=⟨m - 1,by omega⟩
   have e:=i_end n ⟨kind,at_,nums⟩ hl h0 (by show at_≤_;omega)
   have e:f102 (n+2) kind at_ nums.length (fls .f32 nums)=some (at_+(nums.length:Int)):=e
   have g:=i_copy (n+1) nums (by omega)
   have hp2:=push_eff P ⟨kind,at_+(nums.length:Int),nums⟩
   unfold effC at hp2
   simp only at hp2
   rw[f53.l0b,decide_eq_true (show ((r+1:Nat):Int)>0 by omega)]
   simp only[br_t,e,bd_s,g,push_ok (show P.length<2147483648 by omega),gd_t,hp2]
   rw[push_len (z:=(⟨kind,at_+(nums.length:Int),nums⟩:Eff)),show IntKind.i64.wrap (((r+1:Nat):Int) - 1)=(r:Int) by rw[wrap64] <;>omega,ih m _ _ (by omega) (by omega) (by simp;omega) (by omega),repG,List.append_assoc,List.singleton_append]
theorem i_rep_loop (n:Nat) (kind:Int) (nums:List Nat) (hl:nums.length≤1000) (N2:Nat) (t2:List T) (N4:Nat) (t4:List T) (N8:Nat) (t8:List T) (r m:Nat) (P:List Eff) (at_:Int) (h0:0≤at_) (h1:at_+1000 * (r:Int)≤1000000) (hp:P.length+r≤1000) (hm:r<m) :
  f53.l0 (n+2) m (r:Int) N2 t2 N4 t4 P.length (effs P) N8 t8 kind at_ nums.length (fls .f32 nums)=some (N2,t2,N4,t4,(P++repG kind at_ nums r).length,effs (P++repG kind at_ nums r),N8,t8):=by
 rw[← i_rep_loopb n kind nums hl N2 t2 N4 t4 N8 t8 r m P at_ h0 h1 hp hm]
 obtain ⟨m,rfl⟩:∃ k,m=k+1:=⟨m - 1,by omega⟩
 rw[f53.l0,f53.l0b]
theorem s_rep_loop (n:Nat) (i:Nat) (times:Nat) (ht:times≤100) (cs:List Eff) (hi:i<cs.length) (hl:(eAt cs i).nums.length≤1000) (h0:0≤(eAt cs i).len) (h1:(eAt cs i).len≤100000) (N5:Nat) (t5:List T) (N7:Nat) (t7:List T) (N9:Nat) (t9:List T) (N13:Nat) (t13:List T):∀ (r j m:Nat) (P:List Eff),j+r=times→P.length+r≤1000→r<m →
  f54.l0 (n+2) m (i:Int) (times:Int) cs.length (effs cs) N5 t5 N7 t7 N9 t9 P.length (effs P) N13 t13 ((j+1:Nat):Int)=some (N7,t7,N9,t9,(P++repG (eAt cs i).kind ((eAt cs i).len+(j:Int) * ((eAt cs i).nums.length:Int)) (eAt cs i).nums r).length,effs (P++repG (eAt cs i).kind ((eAt cs i).len+(j:Int) * ((eAt cs i).nums.length:Int)) (eAt cs i).nums r),N13,t13):=by
 intro r
 induction r with
 | zero =>
   intro j m P hj _ hm
   obtain ⟨m,rfl⟩:∃ k,m=k+1:=⟨m - 1,by omega⟩
   rw[f54.l0,decide_eq_false (show ¬ ((j+1:Nat):Int)≤(times:Int) by omega),br_f,repG,List.append_nil]
 | succ r ih =>
   intro j m P hj hp hm
   obtain ⟨m,rfl⟩:∃ k,m=k+1:=⟨m - 1,by omega⟩
   have g:=s_clip9 n (eAt cs i) (by omega)
   generalize hL:(eAt cs i).nums.length=L at *
   have hjL:(0:Int)≤(j:Int) * (L:Int):=Int.mul_nonneg (by omega) (by omega)
   have hjL2:(j:Int) * (L:Int)≤100 * 1000:=Int.mul_le_mul (by omega) (by omega) (by omega) (by omega)
   have hs:((j+1:Nat):Int) * (L:Int)=(j:Int) * (L:Int)+(L:Int):=by rw[Int.natCast_add,Int.add_mul];simp
   have hp2:=push_eff P ⟨(eAt cs i).kind,(eAt cs i).len+(j:Int) * (L:Int)+(L:Int),(eAt cs i).nums⟩
   unfold effC at hp2
   simp only at hp2
   rw[hL] at hp2
   have w1:IntKind.i64.wrap (((j+1:Nat):Int) * (L:Int))=(j:Int) * (L:Int)+(L:Int):=by rw[hs,wrap64] <;>omega
   have w2:IntKind.i64.wrap ((eAt cs i).len+((j:Int) * (L:Int)+(L:Int)))=(eAt cs i).len+(j:Int) * (L:Int)+(L:Int):=by rw[wrap64] <;>omega
   rw[f54.l0,decide_eq_true (show ((j+1:Nat):Int)≤(times:Int) by omega),in_dec hi,Int.toNat_natCast,okE hi]
   simp only[br_t,Bool.and_self,gd_t,kE hi,gE hi,nE hi,lE hi,hL,g,bd_s,w1,w2,push_ok (show P.length<2147483648 by omega),hp2]
   rw[push_len (z:=(⟨(eAt cs i).kind,(eAt cs i).len+(j:Int) * (L:Int)+(L:Int),(eAt cs i).nums⟩:Eff)),wrap_succ (show j+1<9223372036854775807 by omega),ih (j+1) m _ (by omega) (by simp;omega) (by omega),repG,hL,hs,List.append_assoc,List.singleton_append,Int.add_assoc]
theorem both (n:Nat) (hn:1200<n) (cl:List Eff) (ss:List Strp) (hg:GoodS cl ss) (hf:Fin cl ss) (t k:Int) :
  ∃ (cl':List Eff) (ss':List Strp) (b:Bool),Fin cl' ss'∧f54 (n+200) cl.length (effs cl) ss.length (strps ss) t k=some (cl'.length,effs cl',ss'.length,strps ss',b)∧f53 (n+200) cl.length (effs cl) ss.length (strps ss) t k=some (cl'.length,effs cl',ss'.length,strps ss',b):=by
 have hl:=(fin_c hf).1
 have fin0:Fin [] []:=⟨by simp[szE],by simp[szSt]⟩
 have v1:=s_sessB (n+193) cl ss (by omega)
 have v1:f105 (n+199) cl.length (effs cl) ss.length (strps ss)=_:=v1
 have v2:=i_sessB (n+193) cl ss (by omega)
 have v2:f101 (n+199) cl.length (effs cl) ss.length (strps ss)=_:=v2
 have w:IntKind.i64.wrap ((cl.length:Int) - 1)=(cl.length:Int) - 1:=by rw[wrap64] <;>omega
 rw[f54,f53,v1,v2,w]
 simp only[bd_s,s_in,i_in,i_index (n+197) t cl.length (by omega)]
 by_cases h1:sessB cl ss=true
 case neg =>
  have h1:sessB cl ss=false:=by simpa using h1
  rw[h1];exact ⟨[],[],false,fin0,rfl,rfl⟩
 rw[h1]
 by_cases h2:0≤t∧t≤(cl.length:Int) - 1
 case neg=>rw[decide_eq_false h2];exact ⟨[],[],false,fin0,rfl,rfl⟩
 rw[decide_eq_true h2]
 by_cases h3:1≤k∧k≤12
 case neg=>rw[decide_eq_false h3];exact ⟨[],[],false,fin0,rfl,rfl⟩
 rw[decide_eq_true h3]
 have hok:=sess_ok h1
 obtain ⟨i,rfl⟩:=Int.eq_ofNat_of_zero_le h2.1
 obtain ⟨k,rfl⟩:=Int.eq_ofNat_of_zero_le (show 0≤k by omega)
 have hi:i<cl.length:=by omega
 have hcl:∀ e∈cl,e.nums.length≤256:=fun e he=>(hok.k e he).2.2
 have hc:=hok.k _ (eAt_mem hi)
 have hc12:=hok.c
 have hs8:=hok.n
 have r1:decide ((0:Int)≤(i:Int)∧(i:Int)<((cl.length:Nat):Int))=true:=in_dec hi
 simp only[Bool.not_true,br_f,br_t,bd_s,r1,Int.toNat_natCast,okE hi,Bool.and_self,gd_t,nE hi]
 by_cases h4:(eAt cl i).nums.length=0
 ·rw[show ((((eAt cl i).nums.length:Nat):Int)==0)=true by rw[h4];rfl]
  exact ⟨[],[],false,fin0,rfl,rfl⟩
 rw[show ((((eAt cl i).nums.length:Nat):Int)==0)=false by simp;exact fun h=>h4 (by rw[h];rfl)]
 have o1:=s_ownq (n+196) (by omega) cl ss (by omega) (fun e he=>by have:=hcl e he;omega) (by omega) (strips_small hok hg)
 have o1:f107 (n+199) cl.length (effs cl) ss.length (strps ss)=_:=o1
 have o2:=i_own (n+196) (by omega) cl ss (by omega) (fun e he=>by have:=hcl e he;omega) (by omega) (strips_small hok hg)
 have o2:f103 (n+199) cl.length (effs cl) ss.length (strps ss)=_:=o2
 have l1:=s_rep_loop (n+197) i k (by omega) cl hi (by omega) (by omega) (by omega) ss.length (strps ss) 0 [] 0 [] ss.length (strps ss) k 0 (n+199) cl (by omega) (by omega) (by omega)
 have hz:(eAt cl i).len+((0:Nat):Int) * ((eAt cl i).nums.length:Int)=(eAt cl i).len:=by simp
 rw[hz] at l1
 have l1:f54.l0 (n+199) (n+199) (i:Int) (k:Int) cl.length (effs cl) ss.length (strps ss) 0 [] 0 [] cl.length (effs cl) ss.length (strps ss) 1=_:=l1
 have l2:=i_rep_loop (n+197) (eAt cl i).kind (eAt cl i).nums (by omega) 0 [] 0 [] ss.length (strps ss) k (n+199) cl (eAt cl i).len (by omega) (by omega) (by omega) (by omega)
 have l2:f53.l0 (n+199) (n+199) (k:Int) 0 [] 0 [] cl.length (effs cl) ss.length (strps ss) (eAt cl i).kind (eAt cl i).len (eAt cl i).nums.length (fls .f32 (eAt cl i).nums)=_:=l2
 obtain ⟨C,hC⟩:∃ C,C=cl++repG (eAt cl i).kind (eAt cl i).len (eAt cl i).nums k:=⟨_,rfl⟩
 rw[← hC] at l1 l2
 have v3:=s_sessB (n+193) C ss (by omega)
 have v3:f105 (n+199) C.length (effs C) ss.length (strps ss)=_:=v3
 have ck:=i_checkedq (n+192) (by omega) C ss
 have ck:f104 (n+199) C.length (effs C) ss.length (strps ss)=_:=ck
 simp only[br_f,o1,o2,bd_s,kE hi,gE hi,lE hi,l1,l2,v3,ck]
 have fin1:Fin C ss:=by
  refine ⟨?_,hf.s⟩
  have q1:szE cl≤257 * cl.length:=szE_few cl hcl
  have q2:szE (repG (eAt cl i).kind (eAt cl i).len (eAt cl i).nums k)≤257 * _:=szE_few _ (fun e he=>by rw[repG_nums _ _ _ _ e he];exact hc.2.2)
  rw[repG_length] at q2
  rw[hC,szE_app]
  omega
 cases hv:sessB C ss
 ·exact ⟨[],[],false,fin0,rfl,rfl⟩
 ·exact ⟨C,ss,true,fin1,rfl,rfl⟩
theorem exact_ (cl:List Eff) (ss:List Strp) (hg:GoodS cl ss) (hh:Huge cl ss) (t:Int) (gt:GoodI .i64 t) (k:Int) (gk:GoodI .i64 k):∃ n,f9 n cl.length (effs cl) ss.length (strps ss) t k=some true:=by
 refine ⟨1048577+1+2001,?_⟩
 generalize hN:1048577+1=N
 rw[show N+2001=(N+2000)+1 from rfl,f9]
 rcases sz_sess (N+1994) cl ss hh (by omega) with ⟨r,r0,e0,hf⟩ | e0
 case inr =>
  have e0:f55 (N+2000) cl.length (effs cl) ss.length (strps ss) 1048576=some (-1):=e0
  rw[e0];rfl
 have e0:f55 (N+2000) cl.length (effs cl) ss.length (strps ss) 1048576=some r:=e0
 have e1:=to_sess (N+1994) cl ss hf (by omega)
 have e1:f56 (N+2000) cl.length (effs cl) ss.length (strps ss)=_:=e1
 obtain ⟨cl',ss',b,hx,e2,e3⟩:=both (N+1800) (by omega) cl ss hg hf t k
 have e2:f54 (N+2000) cl.length (effs cl) ss.length (strps ss) t k=_:=e2
 have e3:f53 (N+2000) cl.length (effs cl) ss.length (strps ss) t k=_:=e3
 have e4:=eq_sess (N+1993) cl ss hf (by omega)
 have e4:f57 (N+2000) cl.length (effs cl) ss.length (strps ss) cl.length (effs cl) ss.length (strps ss)=_:=e4
 have e5:=mk_sess (N+1996) cl ss hf (by omega)
 have e5:f58 (N+2000) cl.length (effs cl) ss.length (strps ss) 1=_:=e5
 have e6:=eq_sess (N+1993) cl' ss' hx (by omega)
 have e6:f57 (N+2000) cl'.length (effs cl') ss'.length (strps ss') cl'.length (effs cl') ss'.length (strps ss')=_:=e6
 have e7:=mk_sess (N+1996) cl' ss' hx (by omega)
 have e7:f58 (N+2000) cl'.length (effs cl') ss'.length (strps ss') 1=_:=e7
 have e8:=hd_sess (N+1996) cl' ss' hx (by omega)
 have e8:f59 (N+2000) cl'.length (effs (marksE 1 cl')) ss'.length (strps (marksSt (1+mkE cl') ss')) 1=_:=e8
 have b1:=mkE_nonneg cl
 have b2:=mkSt_nonneg ss
 have b3:=mkE_nonneg cl'
 have b4:=mkSt_nonneg ss'
 simp only[e0,bd_s,decide_eq_false (show ¬ r<0 by omega),br_f,e1,e2,e3,e4,e5,e6,e7,e8,Bool.not_true,beq_self_eq_true,decide_eq_false (show ¬ (1+mkE cl+mkSt ss<0) by omega),decide_eq_false (show ¬ (1+mkE cl'+mkSt ss'<0) by omega),bne_self_eq_false]
theorem law9:∀ args,LawArgs E Try.f9.params.toList args→∃ N os,evalFn E N 9 args=some ⟨[⟨false,[.leaf],[.bool true]⟩],os⟩:=by
 intro args h0
 have hp:Try.f9.params.toList=[97,2,2]:=by kernel_rfl
 rw[hp] at h0
 obtain ⟨ts0,r0,rfl,hw0,h1⟩:=h0.cons_inv (d:=⟨true,2,48,[.sl .own [.leaf,.leaf,.sl .own [.leaf]],.sl .own [.sl .own [.leaf,.leaf,.sl .own [.leaf]],.leaf,.leaf,.leaf,.leaf]],[.lst 0 [],.lst 0 []],.st [(0,94),(1,95)]⟩) (by kernel_rfl)
 obtain ⟨cl0,ss0,rfl,gs0,gh0⟩:=session_inv (dS:=⟨true,2,48,[.sl .own [.leaf,.leaf,.sl .own [.leaf]],.sl .own [.sl .own [.leaf,.leaf,.sl .own [.leaf]],.leaf,.leaf,.leaf,.leaf]],[.lst 0 [],.lst 0 []],.st [(0,94),(1,95)]⟩) (by kernel_rfl) rfl (dCs:=⟨false,1,24,[.sl .own [.leaf,.leaf,.sl .own [.leaf]]],[.lst 0 []],.slc 191⟩) (by kernel_rfl) rfl (dC:=⟨true,3,40,[.leaf,.leaf,.sl .own [.leaf]],[.int .i64 0,.int .i64 0,.lst 0 []],.st [(0,2),(1,2),(2,24)]⟩) (by kernel_rfl) rfl (dSs:=⟨false,1,24,[.sl .own [.sl .own [.leaf,.leaf,.sl .own [.leaf]],.leaf,.leaf,.leaf,.leaf]],[.lst 0 []],.slc 195⟩) (by kernel_rfl) rfl (dSt:=⟨true,5,40,[.sl .own [.leaf,.leaf,.sl .own [.leaf]],.leaf,.leaf,.leaf,.leaf],[.lst 0 [],.int .i64 0,.flt .f32 0,.bool false,.bool false],.st [(0,193),(1,2),(2,29),(3,4),(4,4)]⟩) (by kernel_rfl) rfl (dB:=⟨false,1,1,[.leaf],[.bool false],.bool⟩) (by kernel_rfl) rfl (dEs:=⟨false,1,24,[.sl .own [.leaf,.leaf,.sl .own [.leaf]]],[.lst 0 []],.slc 235⟩) (by kernel_rfl) rfl (dE:=⟨true,3,40,[.leaf,.leaf,.sl .own [.leaf]],[.int .i64 0,.int .i64 0,.lst 0 []],.st [(0,2),(1,2),(2,24)]⟩) (by kernel_rfl) rfl (dI:=⟨false,1,8,[.leaf],[.int .i64 0],.int .i64⟩) (by kernel_rfl) rfl (dFs:=⟨false,1,24,[.sl .own [.leaf]],[.lst 0 []],.slc 29⟩) (by kernel_rfl) rfl (dF:=⟨false,1,4,[.leaf],[.flt .f32 0],.flt .f32⟩) (by kernel_rfl) rfl hw0
 obtain ⟨ts1,r1,rfl,hw1,h2⟩:=h1.cons_inv (d:=⟨false,1,8,[.leaf],[.int .i64 0],.int .i64⟩) (by kernel_rfl)
 obtain ⟨a1,rfl,g1⟩:=hw1.int_inv (k:=.i64) (d:=⟨false,1,8,[.leaf],[.int .i64 0],.int .i64⟩) (by kernel_rfl) rfl
 obtain ⟨ts2,r2,rfl,hw2,h3⟩:=h2.cons_inv (d:=⟨false,1,8,[.leaf],[.int .i64 0],.int .i64⟩) (by kernel_rfl)
 obtain ⟨a2,rfl,g2⟩:=hw2.int_inv (k:=.i64) (d:=⟨false,1,8,[.leaf],[.int .i64 0],.int .i64⟩) (by kernel_rfl) rfl
 obtain rfl:=h3.nil_inv
 obtain ⟨N,hN⟩:=exact_ cl0 ss0 gs0 gh0 a1 g1 a2 g2
 exact ⟨N,_,f9.ok N (cl0.length,effs cl0,ss0.length,strps ss0,a1,a2) true hN⟩
end Go.Proofs.Ytdobhipbgpiceaa.D
end
section
namespace Go.Proofs.Ytdobhipbgpiceaa.fnExactRepeatClip
open Go Go.ChangeShapes Go.WideShapes Go.ChangeAt Go.RowKit Go.Desk
set_option linter.unusedVariables false
theorem own:ownKnob Try.prog.godebug=none:=by kernel_rfl
theorem laidOut:laidOutB Try.prog=true:=by kernel_rfl
set_option maxRecDepth 100000 in
theorem lifted (os:Os) (started:os.Started) (H:Type) (enc:TypeId × Value→H) :
  ReturnsInHanded {} Try.checked os 9 .any (Rows.fnExactRepeatClipSpec.pre6 enc Try.prog Try.f9 Rows.fnExactRepeatClipRow.domain false) (Rows.fnExactRepeatClipSpec.post enc Try.prog Try.f9 false true false false):=by
 refine returnsInHanded_of_change (C:=Try.checked) own started (by kernel_rfl) Try.func9
  (ChangeSpec.witness6 (enc:=enc) (C:=Try.checked) false ⟨#[],#[.agg #[.slice none 0 0,.slice none 0 0],.int .i64 0,.int .i64 0],[]⟩ 8 (by kernel_rfl) (by kernel_rfl) (by kernel_rfl) (by kernel_rfl)) ?_
 intro W base args ds gs before hval hW hcnd _
 exact law_contract (c:=D.c9) Try.checked.mixed D.tysOk D.fnOk Try.func9 (by kernel_rfl) (by kernel_rfl) (by kernel_rfl) Try.underlying4 rfl
  (fun ds h=>by
    rw[show Try.f9.params.toList.length=3 by kernel_rfl] at h
    match ds,h with
    | [_,_,_],_=>rfl)
  laidOut (N:=8) (by kernel_rfl) (by kernel_rfl) D.law9 hval hW
theorem over:Rows.fnExactRepeatClipRow.holds Try.pinned (OpenSpec.ofChange Rows.fnExactRepeatClipSpec) :=
 OpenClaim.holds_of_wide 9 Try.f9 rfl rfl rfl rfl rfl rfl rfl ⟨rfl,rfl,rfl,rfl,rfl⟩ rfl rfl rfl rfl rfl (by kernel_rfl) Try.func9 (by kernel_rfl)
  (of_decide_eq_true (by kernel_rfl)) (by unfold Func.isWrapper;first | (rw[if_pos (by decide +kernel)];kernel_rfl) | (rw[if_neg (by decide +kernel)];exact ⟨rfl,rfl⟩))
  (fun os started H enc _=>lifted os started H enc)
theorem proved:Rows.FnExactRepeatClipSaid:=over
#print axioms proved
end Go.Proofs.Ytdobhipbgpiceaa.fnExactRepeatClip
namespace Go.Proofs.Ytdobhipbgpiceaa
theorem fnExactRepeatClip_holds:Rows.FnExactRepeatClipSaid:=fnExactRepeatClip.proved
end Go.Proofs.Ytdobhipbgpiceaa
end
