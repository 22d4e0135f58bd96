/- FnExactBounceBlocks holds: for every input the law returns true, and its arguments read as before. -/
import Derived.Test.YtokonabdnlckdaaGreatChecked
import Derived.KernelRfl
import Derived.Test.YtokonabdnlckdaaGreatRows
import Derived.WalkKit
import Derived.ProofKit
import Derived.OpenShut
import Derived.ShutString
import Derived.ChangeOld
import Derived.Below
import Derived.SizedLaws
import Derived.Test.YtokonabdnlckdaaGreatKernC
import Derived.Test.YtokonabdnlckdaaGreatM5b
set_option linter.all false
set_option linter.unusedVariables false
section
namespace Go.Proofs.YtokonabdnlckdaaGreat.D
open Go Go.Desk
set_option linter.unusedVariables false
theorem mkl_e (n:Nat) (hn:1048576<n):∀ (zs p:List Eff) (s:Int) (m:Nat),(∀ e∈zs,e.nums.length≤1048576)→0≤s→s+2 * (zs.length:Int)+(nmE zs:Int)≤1099511627776→p.length+zs.length≤1048576→zs.length<m →
  f92.l0 (n+1) m (p++zs).length (effs (p++zs)) s (p.length:Int)=some ((p++zs).length,effs (p++marksE s zs),s+2 * (zs.length:Int)+(nmE zs:Int)):=by
 intro zs
 induction zs with
 | nil =>
   intro p s m _ _ _ _ hm
   obtain ⟨m,rfl⟩:∃ k,m=k+1:=⟨m - 1,by simp at hm;omega⟩
   rw[f92.l0,lt_end]
   simp[br,marksE,nmE]
 | cons z zs ih =>
   intro p s m hx h0 h1 hp hm
   obtain ⟨m,rfl⟩:∃ k,m=k+1:=⟨m - 1,by simp at hm;omega⟩
   simp only[nmE,List.length_cons] at h1
   have hz:=hx z (by simp)
   have h:p.length<(p++z::zs).length:=by simp
   have hat:eAt (p++z::zs) p.length=z:=by simp[eAt,List.getD]
   have hlen:∀ y,(p++y::zs).length=(p++z::zs).length:=fun y=>by simp
   have hb:∀ (y:Eff) (c:Nat),c<3→Nat.ble (p.length * 3+c+1) (effs (p++y::zs)).length=true:=fun y c hc=>by
    rw[effs_length];apply le_ble;simp;omega
   have st:∀ (y z':Eff) (c:Nat) (v:T),c<3→effC z'=(effC y).set c v→setN (effs (p++y::zs)) (p.length * 3+c) [v]=effs (p++z'::zs):=fun y z' c v hc hy=>by
    rw[setN_one]
    have:=rows_set effC_length ⟨5,0,[]⟩ (p++y::zs) p.length c v z' (by simp) hc (by simpa [List.getD] using hy)
    unfold effs
    rw[this];simp
   have w1:IntKind.i64.wrap (s+1)=s+1:=by rw[wrap64] <;>omega
   have w2:IntKind.i64.wrap (s+1+1)=s+2:=by rw[wrap64] <;>omega
   have e0:=st z ⟨s,z.len,z.nums⟩ 0 (.int .i64 s) (by decide) rfl
   have e1:=st ⟨s,z.len,z.nums⟩ ⟨s,s+1,z.nums⟩ 1 (.int .i64 (s+1)) (by decide) rfl
   have e2:=st ⟨s,s+1,z.nums⟩ ⟨s,s+1,marksF .f32 (s+2) z.nums.length⟩ 2 (.lst z.nums.length (fls .f32 (marksF .f32 (s+2) z.nums.length))) (by decide) (by simp[effC,marksF_length])
   have h2:p.length<(p++(⟨s,s+1,z.nums⟩:Eff)::zs).length:=by simp
   have hat2:eAt (p++(⟨s,s+1,z.nums⟩:Eff)::zs) p.length=⟨s,s+1,z.nums⟩:=by simp[eAt,List.getD]
   have g3:(effs (p++(⟨s,s+1,z.nums⟩:Eff)::zs))[p.length * 3+2]?=some (.lst z.nums.length (fls .f32 z.nums)):=by
    rw[eff_get (c:=2) (by decide) _ _ h2,hat2];rfl
   have g4:okAt [.lst] (effs (p++(⟨s,s+1,z.nums⟩:Eff)::zs)) (p.length * 3+2)=true:=by simp[okAt,g3,isCK]
   have g5:nAt (effs (p++(⟨s,s+1,z.nums⟩:Eff)::zs)) (p.length * 3+2)=z.nums.length:=by unfold nAt;rw[g3]
   have g6:lAt (effs (p++(⟨s,s+1,z.nums⟩:Eff)::zs)) (p.length * 3+2)=fls .f32 z.nums:=by unfold lAt;rw[g3]
   have e3:=mark32 n z.nums (by omega) (s+2) (by omega) (by omega) (by omega)
   have step:=ih (p++[⟨s,s+1,marksF .f32 (s+2) z.nums.length⟩]) (s+2+(z.nums.length:Int)) m (fun e he=>hx e (by simp[he])) (by omega) (by omega) (by simp at hp ⊢;omega) (by simp at hm;omega)
   rw[f92.l0,lt_mid,in_mid,toNat_len,wrap_len (z:=z) (show p.length<4611686018427387904 by simp at hp;omega)]
   simp only[br_t,gd_t,hb z 0 (by decide),e0,w1,hb _ 1 (by decide),e1,w2,g4,Bool.and_self,g5,g6,e3,bd_s,e2]
   have q1:(p++[(⟨s,s+1,marksF .f32 (s+2) z.nums.length⟩:Eff)])++zs=p++⟨s,s+1,marksF .f32 (s+2) z.nums.length⟩::zs:=by simp
   have q2:(p++[(⟨s,s+1,marksF .f32 (s+2) z.nums.length⟩:Eff)])++marksE (s+2+(z.nums.length:Int)) zs=p++marksE s (z::zs):=by simp[marksE]
   rw[q1,q2,hlen] at step
   have q3:(p++[(⟨s,s+1,marksF .f32 (s+2) z.nums.length⟩:Eff)]).length=(p++[z]).length:=by simp
   rw[q3] at step
   rw[step]
   congr 3
   simp only[nmE,List.length_cons];omega
theorem mks_e (n:Nat) (es:List Eff) (hx:∀ e∈es,e.nums.length≤1048576) (hl:es.length≤1048576) (s:Int) (h0:0≤s) (h1:s+2 * (es.length:Int)+(nmE es:Int)≤1099511627776) (hn:1048576<n) :
  f92 (n+2) es.length (effs es) s=some (s+2 * (es.length:Int)+(nmE es:Int),es.length,effs (marksE s es)):=by
 have e:=mkl_e n hn es [] s (n+1) hx h0 h1 (by simpa using hl) (by omega)
 have e:f92.l0 (n+1) (n+1) es.length (effs es) s 0=some (es.length,effs (marksE s es),s+2 * (es.length:Int)+(nmE es:Int)):=e
 rw[f92,e];rfl
theorem sz1_c (n:Nat) (e:Eff) (hx:e.nums.length≤9223372036854775807) (left:Int) (h0:0≤left) (h1:left≤1048576):f83 (n+2) e.kind e.len e.nums.length (fls .f32 e.nums) left=some (leftM left e.nums.length):=by
 rw[f83,sz32 n e.nums hx left h0 h1]
 simp only[bd_s,leftM_neg h0]
 by_cases h:(e.nums.length:Int)≤left
 ·rw[decide_eq_true h];rfl
 ·rw[decide_eq_false h];unfold leftM;rw[if_neg h];rfl
theorem szl_c (n:Nat) (es:List Eff) (hx:∀ e∈es,e.nums.length≤9223372036854775807) (hl:es.length≤1048576):∀ (j i m:Nat) (left:Int),0≤left→left≤1048576→i+j=es.length→j<m →
  f41.l0 (n+2) m es.length (effs es) left (i:Int)=some (if (nmE (es.drop i):Int)≤left then Sum.inr (left - (nmE (es.drop i):Int)) else Sum.inl (-1)):=by
 intro j
 induction j with
 | zero =>
   intro i m left h0 h1 hi hm
   obtain ⟨m,rfl⟩:∃ k,m=k+1:=⟨m - 1,by omega⟩
   rw[f41.l0,nlt_dec (by omega),List.drop_eq_nil_of_le (by omega)]
   simp[br,nmE,h0]
 | succ j ih =>
   intro i m left h0 h1 hi hm
   obtain ⟨m,rfl⟩:∃ k,m=k+1:=⟨m - 1,by omega⟩
   have h:i<es.length:=by omega
   have e1:=sz1_c n (eAt es i) (hx _ (eAt_mem h)) left h0 h1
   rw[f41.l0,lt_dec h,in_dec h,Int.toNat_natCast,okE h,eff_drop h,nmE]
   simp only[br_t,Bool.and_self,gd_t,kE h,gE h,nE h,lE h,e1,bd_s,leftM_neg h0,wrap_succ (show i<9223372036854775807 by omega)]
   by_cases hc:((eAt es i).nums.length:Int)≤left
   ·rw[decide_eq_true hc]
    simp only[Bool.not_true,br_f]
    have hL:leftM left (eAt es i).nums.length=left - ((eAt es i).nums.length:Int):=by unfold leftM;rw[if_pos hc]
    rw[hL,ih (i+1) m _ (by omega) (by omega) (by omega) (by omega)]
    congr 1
    by_cases h2:(nmE (es.drop (i+1)):Int)≤left - ((eAt es i).nums.length:Int)
    ·rw[if_pos h2,if_pos (by omega)];congr 1;omega
    ·rw[if_neg h2,if_neg (by omega)]
   ·rw[decide_eq_false hc,if_neg (by omega)];rfl
theorem szs_c (n:Nat) (es:List Eff) (hx:∀ e∈es,e.nums.length≤9223372036854775807) (hx2:es.length≤9223372036854775807) (left:Int) (h0:0≤left) (h1:left≤1048576) (hn:1048577<n) :
  f41 (n+3) es.length (effs es) left=some (leftM left (szE es)):=by
 rw[f41,show IntKind.i64.wrap (left - (es.length:Int))=left - (es.length:Int) by rw[wrap64] <;>omega,szE_nm]
 unfold leftM
 by_cases h:(es.length:Int)≤left
 ·have e:=szl_c n es hx (by omega) es.length 0 (n+2) (left - (es.length:Int)) (by omega) (by omega) (by omega) (by omega)
  have e:f41.l0 (n+2) (n+2) es.length (effs es) (left - (es.length:Int)) 0=_:=e
  rw[decide_eq_false (by omega),e,List.drop_zero]
  by_cases h2:(nmE es:Int)≤left - (es.length:Int)
  ·rw[if_pos h2,if_pos (by omega)]
   simp only[br_f,bd_s,sm_r]
   congr 1;omega
  ·rw[if_neg h2,if_neg (by omega)];rfl
 ·rw[decide_eq_true (by omega),if_neg (by omega)];rfl
theorem to1_c (n:Nat) (e:Eff) (hx:e.nums.length≤1048576) (hn:1048576<n):f88 (n+2) e.kind e.len e.nums.length (fls .f32 e.nums)=some (e.kind,e.len,e.nums.length,fls .f32 e.nums):=by
 rw[f88,copied n e.nums hx (by omega)];rfl
theorem tol_c (n:Nat) (es:List Eff) (hx:∀ e∈es,e.nums.length≤1048576) (hl:es.length≤1048576) (hn:1048576<n):∀ (j i m:Nat) (ys:List Eff),ys.length=es.length→i+j=es.length→j<m →
  f47.l0 (n+2) m es.length (effs es) es.length (effs (es.take i++ys.drop i)) (i:Int)=some (es.length,effs es):=by
 intro j
 induction j with
 | zero =>
   intro i m ys hy hi hm
   obtain ⟨m,rfl⟩:∃ k,m=k+1:=⟨m - 1,by omega⟩
   rw[f47.l0,nlt_dec (by omega),List.take_of_length_le (by omega),List.drop_eq_nil_of_le (by omega),List.append_nil];rfl
 | succ j ih =>
   intro i m ys hy hi hm
   obtain ⟨m,rfl⟩:∃ k,m=k+1:=⟨m - 1,by omega⟩
   have h:i<es.length:=by omega
   have hlen:(es.take i++ys.drop i).length=es.length:=by rw[List.length_append,List.length_take,List.length_drop];omega
   have h':i<(es.take i++ys.drop i).length:=by omega
   have hb:Nat.ble (i * 3+0+3) (effs (es.take i++ys.drop i)).length=true:=by rw[effs_length,hlen];exact le_ble (by omega)
   have hset:(es.take i++ys.drop i).set i (eAt es i)=es.take (i+1)++ys.drop (i+1):=by
    have:eAt es i=es[i]:=by simp[eAt,List.getD,h]
    rw[this];exact take_set_drop h hy
   rw[f47.l0,lt_dec h,in_dec h,Int.toNat_natCast,okE h]
   simp only[br_t,Bool.and_self,gd_t,kE h,gE h,nE h,lE h,to1_c n (eAt es i) (hx _ (eAt_mem h)) hn,bd_s,hb,eff_row h' (eAt es i),hset,wrap_succ (show i<9223372036854775807 by omega)]
   exact ih (i+1) m ys hy (by omega) (by omega)
theorem tos_c (n:Nat) (es:List Eff) (hx:∀ e∈es,e.nums.length≤1048576) (hl:es.length≤1048576) (hn:1048576<n):f47 (n+3) es.length (effs es)=some (es.length,effs es):=by
 have e:=tol_c n es hx hl hn es.length 0 (n+2) (List.replicate es.length ⟨0,0,[]⟩) (by simp) (by omega) (by omega)
 rw[List.take_zero,List.drop_zero,List.nil_append] at e
 have e:f47.l0 (n+2) (n+2) es.length (effs es) es.length (effs (List.replicate es.length ⟨0,0,[]⟩)) 0=_:=e
 rw[f47,decide_eq_true (show (0:Int)≤(es.length:Int)∧(es.length:Int)≤2147483648 by omega),reps_effs]
 simp only[gd_t,e,bd_s]
theorem eq1_c (n:Nat) (e:Eff) (hx:e.nums.length≤1048576) (hn:1048576<n):f90 (n+3) e.kind e.len e.nums.length (fls .f32 e.nums) e.kind e.len e.nums.length (fls .f32 e.nums)=some true:=by
 rw[f90,eq_self n e.nums (by omega) (by omega)]
 simp only[bne_self_eq_false,br_f,bd_s,Bool.not_true]
theorem eql_c (n:Nat) (es:List Eff) (hx:∀ e∈es,e.nums.length≤1048576) (hl:es.length≤1048576) (hn:1048576<n):∀ (j i m:Nat),i+j=es.length→j<m →
  f50.l0 (n+3) m es.length (effs es) es.length (effs es) (i:Int)=some (Sum.inr ()):=by
 intro j
 induction j with
 | zero =>
   intro i m hi hm
   obtain ⟨m,rfl⟩:∃ k,m=k+1:=⟨m - 1,by omega⟩
   rw[f50.l0,nlt_dec (by omega)];rfl
 | succ j ih =>
   intro i m hi hm
   obtain ⟨m,rfl⟩:∃ k,m=k+1:=⟨m - 1,by omega⟩
   have h:i<es.length:=by omega
   rw[f50.l0,lt_dec h,in_dec h,Int.toNat_natCast,okE h]
   simp only[br_t,Bool.and_self,gd_t,kE h,gE h,nE h,lE h,eq1_c n (eAt es i) (hx _ (eAt_mem h)) hn,bd_s,Bool.not_true,br_f,wrap_succ (show i<9223372036854775807 by omega)]
   exact ih (i+1) m (by omega) (by omega)
theorem eqs_c (n:Nat) (es:List Eff) (hx:∀ e∈es,e.nums.length≤1048576) (hl:es.length≤1048576) (hn:1048576<n):f50 (n+4) es.length (effs es) es.length (effs es)=some true:=by
 have e:=eql_c n es hx hl hn es.length 0 (n+3) (by omega) (by omega)
 have e:f50.l0 (n+3) (n+3) es.length (effs es) es.length (effs es) 0=_:=e
 rw[f50]
 simp only[bne_self_eq_false,br_f,e,bd_s,sm_r]
theorem mkl_c (n:Nat) (hn:1048576<n):∀ (zs p:List Eff) (s:Int) (m:Nat),(∀ e∈zs,e.nums.length≤1048576)→0≤s→s+2 * (zs.length:Int)+(nmE zs:Int)≤1099511627776→p.length+zs.length≤1048576→zs.length<m →
  f52.l0 (n+1) m (p++zs).length (effs (p++zs)) s (p.length:Int)=some ((p++zs).length,effs (p++marksE s zs),s+2 * (zs.length:Int)+(nmE zs:Int)):=by
 intro zs
 induction zs with
 | nil =>
   intro p s m _ _ _ _ hm
   obtain ⟨m,rfl⟩:∃ k,m=k+1:=⟨m - 1,by simp at hm;omega⟩
   rw[f52.l0,lt_end]
   simp[br,marksE,nmE]
 | cons z zs ih =>
   intro p s m hx h0 h1 hp hm
   obtain ⟨m,rfl⟩:∃ k,m=k+1:=⟨m - 1,by simp at hm;omega⟩
   simp only[nmE,List.length_cons] at h1
   have hz:=hx z (by simp)
   have h:p.length<(p++z::zs).length:=by simp
   have hat:eAt (p++z::zs) p.length=z:=by simp[eAt,List.getD]
   have hlen:∀ y,(p++y::zs).length=(p++z::zs).length:=fun y=>by simp
   have hb:∀ (y:Eff) (c:Nat),c<3→Nat.ble (p.length * 3+c+1) (effs (p++y::zs)).length=true:=fun y c hc=>by
    rw[effs_length];apply le_ble;simp;omega
   have st:∀ (y z':Eff) (c:Nat) (v:T),c<3→effC z'=(effC y).set c v→setN (effs (p++y::zs)) (p.length * 3+c) [v]=effs (p++z'::zs):=fun y z' c v hc hy=>by
    rw[setN_one]
    have:=rows_set effC_length ⟨5,0,[]⟩ (p++y::zs) p.length c v z' (by simp) hc (by simpa [List.getD] using hy)
    unfold effs
    rw[this];simp
   have w1:IntKind.i64.wrap (s+1)=s+1:=by rw[wrap64] <;>omega
   have w2:IntKind.i64.wrap (s+1+1)=s+2:=by rw[wrap64] <;>omega
   have e0:=st z ⟨s,z.len,z.nums⟩ 0 (.int .i64 s) (by decide) rfl
   have e1:=st ⟨s,z.len,z.nums⟩ ⟨s,s+1,z.nums⟩ 1 (.int .i64 (s+1)) (by decide) rfl
   have e2:=st ⟨s,s+1,z.nums⟩ ⟨s,s+1,marksF .f32 (s+2) z.nums.length⟩ 2 (.lst z.nums.length (fls .f32 (marksF .f32 (s+2) z.nums.length))) (by decide) (by simp[effC,marksF_length])
   have h2:p.length<(p++(⟨s,s+1,z.nums⟩:Eff)::zs).length:=by simp
   have hat2:eAt (p++(⟨s,s+1,z.nums⟩:Eff)::zs) p.length=⟨s,s+1,z.nums⟩:=by simp[eAt,List.getD]
   have g3:(effs (p++(⟨s,s+1,z.nums⟩:Eff)::zs))[p.length * 3+2]?=some (.lst z.nums.length (fls .f32 z.nums)):=by
    rw[eff_get (c:=2) (by decide) _ _ h2,hat2];rfl
   have g4:okAt [.lst] (effs (p++(⟨s,s+1,z.nums⟩:Eff)::zs)) (p.length * 3+2)=true:=by simp[okAt,g3,isCK]
   have g5:nAt (effs (p++(⟨s,s+1,z.nums⟩:Eff)::zs)) (p.length * 3+2)=z.nums.length:=by unfold nAt;rw[g3]
   have g6:lAt (effs (p++(⟨s,s+1,z.nums⟩:Eff)::zs)) (p.length * 3+2)=fls .f32 z.nums:=by unfold lAt;rw[g3]
   have e3:=mark32 n z.nums (by omega) (s+2) (by omega) (by omega) (by omega)
   have step:=ih (p++[⟨s,s+1,marksF .f32 (s+2) z.nums.length⟩]) (s+2+(z.nums.length:Int)) m (fun e he=>hx e (by simp[he])) (by omega) (by omega) (by simp at hp ⊢;omega) (by simp at hm;omega)
   rw[f52.l0,lt_mid,in_mid,toNat_len,wrap_len (z:=z) (show p.length<4611686018427387904 by simp at hp;omega)]
   simp only[br_t,gd_t,hb z 0 (by decide),e0,w1,hb _ 1 (by decide),e1,w2,g4,Bool.and_self,g5,g6,e3,bd_s,e2]
   have q1:(p++[(⟨s,s+1,marksF .f32 (s+2) z.nums.length⟩:Eff)])++zs=p++⟨s,s+1,marksF .f32 (s+2) z.nums.length⟩::zs:=by simp
   have q2:(p++[(⟨s,s+1,marksF .f32 (s+2) z.nums.length⟩:Eff)])++marksE (s+2+(z.nums.length:Int)) zs=p++marksE s (z::zs):=by simp[marksE]
   rw[q1,q2,hlen] at step
   have q3:(p++[(⟨s,s+1,marksF .f32 (s+2) z.nums.length⟩:Eff)]).length=(p++[z]).length:=by simp
   rw[q3] at step
   rw[step]
   congr 3
   simp only[nmE,List.length_cons];omega
theorem mks_c (n:Nat) (es:List Eff) (hx:∀ e∈es,e.nums.length≤1048576) (hl:es.length≤1048576) (s:Int) (h0:0≤s) (h1:s+2 * (es.length:Int)+(nmE es:Int)≤1099511627776) (hn:1048576<n) :
  f52 (n+2) es.length (effs es) s=some (s+2 * (es.length:Int)+(nmE es:Int),es.length,effs (marksE s es)):=by
 have e:=mkl_c n hn es [] s (n+1) hx h0 h1 (by simpa using hl) (by omega)
 have e:f52.l0 (n+1) (n+1) es.length (effs es) s 0=some (es.length,effs (marksE s es),s+2 * (es.length:Int)+(nmE es:Int)):=e
 rw[f52,e];rfl
structure Fin (cl:List Eff) (ss:List Strp):Prop where
 c:szE cl≤1048576
 s:szSt ss≤1048576
structure Huge (cl:List Eff) (ss:List Strp):Prop where
 c:cl.length≤9223372036854775807
 cn:∀ e∈cl,e.nums.length≤9223372036854775807
 s:ss.length≤9223372036854775807
 se:∀ s∈ss,s.es.length≤9223372036854775807∧∀ e∈s.es,e.nums.length≤9223372036854775807
theorem sz1_st (n:Nat) (s:Strp) (hx:s.es.length≤9223372036854775807∧∀ e∈s.es,e.nums.length≤9223372036854775807) (left:Int) (h0:0≤left) (h1:left≤1048576) (hn:1048577<n) :
  f84 (n+4) s.es.length (effs s.es) s.tn s.pan s.mute s.solo left=some (leftM left (szE s.es)):=by
 rw[f84,szs_e n s.es hx.2 hx.1 left h0 h1 hn]
 simp only[bd_s,leftM_neg h0]
 by_cases h:(szE s.es:Int)≤left
 ·rw[decide_eq_true h];rfl
 ·rw[decide_eq_false h];unfold leftM;rw[if_neg h];rfl
theorem szl_st (n:Nat) (hn:1048577<n) (ss:List Strp) (hx:∀ s∈ss,s.es.length≤9223372036854775807∧∀ e∈s.es,e.nums.length≤9223372036854775807) (hl:ss.length≤1048576):∀ (j i m:Nat) (left:Int),0≤left→left≤1048576→i+j=ss.length→j<m →
  f42.l0 (n+4) m ss.length (strps ss) left (i:Int)=some (if (nmSt (ss.drop i):Int)≤left then Sum.inr (left - (nmSt (ss.drop i):Int)) else Sum.inl (-1)):=by
 intro j
 induction j with
 | zero =>
   intro i m left h0 h1 hi hm
   obtain ⟨m,rfl⟩:∃ k,m=k+1:=⟨m - 1,by omega⟩
   rw[f42.l0,nlt_dec (by omega),List.drop_eq_nil_of_le (by omega)]
   simp[br,nmSt,h0]
 | succ j ih =>
   intro i m left h0 h1 hi hm
   obtain ⟨m,rfl⟩:∃ k,m=k+1:=⟨m - 1,by omega⟩
   have h:i<ss.length:=by omega
   have e1:=sz1_st n (sAt5 ss i) (hx _ (sAt5_mem h)) left h0 h1 hn
   rw[f42.l0,lt_dec h,in_dec h,Int.toNat_natCast,okS5 h,st_drop h,nmSt]
   simp only[br_t,Bool.and_self,gd_t,nS5 h,lS5 h,tS5 h,pS5 h,mS5 h,oS5 h,e1,bd_s,leftM_neg h0,wrap_succ (show i<9223372036854775807 by omega)]
   by_cases hc:(szE (sAt5 ss i).es:Int)≤left
   ·rw[decide_eq_true hc]
    simp only[Bool.not_true,br_f]
    have hL:leftM left (szE (sAt5 ss i).es)=left - (szE (sAt5 ss i).es:Int):=by unfold leftM;rw[if_pos hc]
    rw[hL,ih (i+1) m _ (by omega) (by omega) (by omega) (by omega)]
    congr 1
    by_cases h2:(nmSt (ss.drop (i+1)):Int)≤left - (szE (sAt5 ss i).es:Int)
    ·rw[if_pos h2,if_pos (by omega)];congr 1;omega
    ·rw[if_neg h2,if_neg (by omega)]
   ·rw[decide_eq_false hc,if_neg (by omega)];rfl
theorem szs_st (n:Nat) (ss:List Strp) (hx:∀ s∈ss,s.es.length≤9223372036854775807∧∀ e∈s.es,e.nums.length≤9223372036854775807) (hx2:ss.length≤9223372036854775807) (left:Int) (h0:0≤left) (h1:left≤1048576) (hn:1048577<n) :
  f42 (n+5) ss.length (strps ss) left=some (leftM left (szSt ss)):=by
 rw[f42,show IntKind.i64.wrap (left - (ss.length:Int))=left - (ss.length:Int) by rw[wrap64] <;>omega,szSt_nm]
 unfold leftM
 by_cases h:(ss.length:Int)≤left
 ·have e:=szl_st n hn ss hx (by omega) ss.length 0 (n+4) (left - (ss.length:Int)) (by omega) (by omega) (by omega) (by omega)
  have e:f42.l0 (n+4) (n+4) ss.length (strps ss) (left - (ss.length:Int)) 0=_:=e
  rw[decide_eq_false (by omega),e,List.drop_zero]
  by_cases h2:(nmSt ss:Int)≤left - (ss.length:Int)
  ·rw[if_pos h2,if_pos (by omega)]
   simp only[br_f,bd_s,sm_r]
   congr 1;omega
  ·rw[if_neg h2,if_neg (by omega)];rfl
 ·rw[decide_eq_true (by omega),if_neg (by omega)];rfl
theorem sz_sess (n:Nat) (cl:List Eff) (ss:List Strp) (h:Huge cl ss) (hn:1048577<n) :
  (∃ r:Int,0≤r∧f14 (n+6) cl.length (effs cl) ss.length (strps ss) 1048576=some r∧Fin cl ss)∨f14 (n+6) cl.length (effs cl) ss.length (strps ss) 1048576=some (-1):=by
 rw[f14,szs_c (n+2) cl h.cn h.c 1048576 (by omega) (by omega) (by omega)]
 simp only[bd_s,leftM_neg (show (0:Int)≤1048576 by omega)]
 by_cases h1:(szE cl:Int)≤1048576
 ·rw[decide_eq_true h1]
  have hL:leftM 1048576 (szE cl)=1048576 - (szE cl:Int):=by unfold leftM;rw[if_pos h1]
  simp only[Bool.not_true,br_f,hL,szs_st n ss h.se h.s (1048576 - (szE cl:Int)) (by omega) (by omega) hn,bd_s,leftM_neg (show (0:Int)≤1048576 - (szE cl:Int) by omega)]
  by_cases h2:(szSt ss:Int)≤1048576 - (szE cl:Int)
  ·rw[decide_eq_true h2]
   refine .inl ⟨1048576 - (szE cl:Int) - (szSt ss:Int),by omega,?_,⟨by omega,by omega⟩⟩
   unfold leftM;rw[if_pos h2];rfl
  ·rw[decide_eq_false h2];exact .inr rfl
 ·rw[decide_eq_false h1];exact .inr rfl
theorem fin_c {cl:List Eff} {ss:List Strp} (h:Fin cl ss):cl.length≤1048576∧∀ e∈cl,e.nums.length≤1048576 :=
 ⟨Nat.le_trans (szE_len cl) h.c,fun e he=>Nat.le_trans (szE_num cl e he) h.c⟩
theorem fin_s {cl:List Eff} {ss:List Strp} (h:Fin cl ss):ss.length≤1048576∧∀ s∈ss,s.es.length≤1048576∧∀ e∈s.es,e.nums.length≤1048576 :=
 ⟨Nat.le_trans (szSt_len ss) h.s,fun s hs=>by
   have h1:=Nat.le_trans (szSt_es ss s hs) h.s
   exact ⟨Nat.le_trans (szE_len _) h1,fun e he=>Nat.le_trans (szE_num _ e he) h1⟩⟩
theorem to1_st (n:Nat) (s:Strp) (hx:s.es.length≤1048576∧∀ e∈s.es,e.nums.length≤1048576) (hn:1048576<n):f89 (n+4) s.es.length (effs s.es) s.tn s.pan s.mute s.solo=some (s.es.length,effs s.es,s.tn,s.pan,s.mute,s.solo):=by
 rw[f89,tos_e n s.es hx.2 hx.1 hn];rfl
theorem tol_st (n:Nat) (ss:List Strp) (hx:∀ s∈ss,s.es.length≤1048576∧∀ e∈s.es,e.nums.length≤1048576) (hl:ss.length≤1048576) (hn:1048576<n):∀ (j i m:Nat) (ys:List Strp),ys.length=ss.length→i+j=ss.length→j<m →
  f48.l0 (n+4) m ss.length (strps ss) ss.length (strps (ss.take i++ys.drop i)) (i:Int)=some (ss.length,strps ss):=by
 intro j
 induction j with
 | zero =>
   intro i m ys hy hi hm
   obtain ⟨m,rfl⟩:∃ k,m=k+1:=⟨m - 1,by omega⟩
   rw[f48.l0,nlt_dec (by omega),List.take_of_length_le (by omega),List.drop_eq_nil_of_le (by omega),List.append_nil];rfl
 | succ j ih =>
   intro i m ys hy hi hm
   obtain ⟨m,rfl⟩:∃ k,m=k+1:=⟨m - 1,by omega⟩
   have h:i<ss.length:=by omega
   have hlen:(ss.take i++ys.drop i).length=ss.length:=by rw[List.length_append,List.length_take,List.length_drop];omega
   have h':i<(ss.take i++ys.drop i).length:=by omega
   have hb:Nat.ble (i * 5+0+5) (strps (ss.take i++ys.drop i)).length=true:=by rw[strps_length,hlen];exact le_ble (by omega)
   have hset:(ss.take i++ys.drop i).set i (sAt5 ss i)=ss.take (i+1)++ys.drop (i+1):=by
    have:sAt5 ss i=ss[i]:=by simp[sAt5,List.getD,h]
    rw[this];exact take_set_drop h hy
   rw[f48.l0,lt_dec h,in_dec h,Int.toNat_natCast,okS5 h]
   simp only[br_t,Bool.and_self,gd_t,nS5 h,lS5 h,tS5 h,pS5 h,mS5 h,oS5 h,to1_st n (sAt5 ss i) (hx _ (sAt5_mem h)) hn,bd_s,hb,st_row h' (sAt5 ss i),hset,wrap_succ (show i<9223372036854775807 by omega)]
   exact ih (i+1) m ys hy (by omega) (by omega)
theorem tos_st (n:Nat) (ss:List Strp) (hx:∀ s∈ss,s.es.length≤1048576∧∀ e∈s.es,e.nums.length≤1048576) (hl:ss.length≤1048576) (hn:1048576<n):f48 (n+5) ss.length (strps ss)=some (ss.length,strps ss):=by
 have e:=tol_st n ss hx hl hn ss.length 0 (n+4) (List.replicate ss.length ⟨[],0,0,false,false⟩) (by simp) (by omega) (by omega)
 rw[List.take_zero,List.drop_zero,List.nil_append] at e
 have e:f48.l0 (n+4) (n+4) ss.length (strps ss) ss.length (strps (List.replicate ss.length ⟨[],0,0,false,false⟩)) 0=_:=e
 rw[f48,decide_eq_true (show (0:Int)≤(ss.length:Int)∧(ss.length:Int)≤2147483648 by omega),reps_strps]
 simp only[gd_t,e,bd_s]
theorem to_sess (n:Nat) (cl:List Eff) (ss:List Strp) (h:Fin cl ss) (hn:1048576<n):f16 (n+6) cl.length (effs cl) ss.length (strps ss)=some (cl.length,effs cl,ss.length,strps ss):=by
 rw[f16,tos_c (n+2) cl (fin_c h).2 (fin_c h).1 (by omega)]
 simp only[bd_s,tos_st n ss (fin_s h).2 (fin_s h).1 hn]
theorem eq1_st (n:Nat) (s:Strp) (hx:s.es.length≤1048576∧∀ e∈s.es,e.nums.length≤1048576) (hn:1048576<n) :
  f91 (n+5) s.es.length (effs s.es) s.tn s.pan s.mute s.solo s.es.length (effs s.es) s.tn s.pan s.mute s.solo=some true:=by
 rw[f91,eqs_e n s.es hx.2 hx.1 hn,fltToFlt_wide]
 simp only[bd_s,Bool.not_true,br_f,bne_self_eq_false,same_self,beq_self_eq_true]
theorem eql_st (n:Nat) (ss:List Strp) (hx:∀ s∈ss,s.es.length≤1048576∧∀ e∈s.es,e.nums.length≤1048576) (hl:ss.length≤1048576) (hn:1048576<n):∀ (j i m:Nat),i+j=ss.length→j<m →
  f51.l0 (n+5) m ss.length (strps ss) ss.length (strps ss) (i:Int)=some (Sum.inr ()):=by
 intro j
 induction j with
 | zero =>
   intro i m hi hm
   obtain ⟨m,rfl⟩:∃ k,m=k+1:=⟨m - 1,by omega⟩
   rw[f51.l0,nlt_dec (by omega)];rfl
 | succ j ih =>
   intro i m hi hm
   obtain ⟨m,rfl⟩:∃ k,m=k+1:=⟨m - 1,by omega⟩
   have h:i<ss.length:=by omega
   rw[f51.l0,lt_dec h,in_dec h,Int.toNat_natCast,okS5 h]
   simp only[br_t,Bool.and_self,gd_t,nS5 h,lS5 h,tS5 h,pS5 h,mS5 h,oS5 h,eq1_st n (sAt5 ss i) (hx _ (sAt5_mem h)) hn,bd_s,Bool.not_true,br_f,wrap_succ (show i<9223372036854775807 by omega)]
   exact ih (i+1) m (by omega) (by omega)
theorem eqs_st (n:Nat) (ss:List Strp) (hx:∀ s∈ss,s.es.length≤1048576∧∀ e∈s.es,e.nums.length≤1048576) (hl:ss.length≤1048576) (hn:1048576<n):f51 (n+6) ss.length (strps ss) ss.length (strps ss)=some true:=by
 have e:=eql_st n ss hx hl hn ss.length 0 (n+5) (by omega) (by omega)
 have e:f51.l0 (n+5) (n+5) ss.length (strps ss) ss.length (strps ss) 0=_:=e
 rw[f51]
 simp only[bne_self_eq_false,br_f,e,bd_s,sm_r]
theorem eq_sess (n:Nat) (cl:List Eff) (ss:List Strp) (h:Fin cl ss) (hn:1048576<n):f18 (n+7) cl.length (effs cl) ss.length (strps ss) cl.length (effs cl) ss.length (strps ss)=some true:=by
 rw[f18,eqs_c (n+2) cl (fin_c h).2 (fin_c h).1 (by omega)]
 simp only[bd_s,Bool.not_true,br_f,eqs_st n ss (fin_s h).2 (fin_s h).1 hn]
def mkE (es:List Eff):Int:=2 * (es.length:Int)+(nmE es:Int)
def marksSt:Int→List Strp→List Strp
 | _,[]=>[]
 | s,t::ts=>⟨marksE s t.es,s+mkE t.es,FloatKind.f32.nearest (s+mkE t.es+1),Int.tmod (s+mkE t.es+2) 3==0,Int.tmod (s+mkE t.es+3) 3==0⟩::marksSt (s+mkE t.es+4) ts
def mkSt:List Strp→Int
 | []=>0
 | t::ts=>mkE t.es+4+mkSt ts
theorem mkE_nonneg (es:List Eff):0≤mkE es:=by unfold mkE;omega
theorem mkSt_nonneg:∀ (ss:List Strp),0≤mkSt ss
 | []=>Int.le_refl _
 | t::ts=>by have:=mkSt_nonneg ts;have:=mkE_nonneg t.es;simp only[mkSt];omega
theorem mkE_le (es:List Eff):mkE es≤2 * (szE es:Int):=by unfold mkE;rw[szE_nm];omega
theorem mkSt_le:∀ (ss:List Strp),mkSt ss≤4 * (szSt ss:Int)
 | []=>by simp[mkSt,szSt]
 | t::ts=>by have:=mkSt_le ts;have:=mkE_le t.es;simp only[mkSt,szSt];omega
theorem mkl_st (n:Nat) (hn:1048576<n):∀ (zs p:List Strp) (s:Int) (m:Nat),(∀ t∈zs,t.es.length≤1048576∧∀ e∈t.es,e.nums.length≤1048576)→0≤s→s+mkSt zs≤1099511627776→p.length+zs.length≤1048576→zs.length<m →
  f53.l0 (n+2) m (p++zs).length (strps (p++zs)) s (p.length:Int)=some ((p++zs).length,strps (p++marksSt s zs),s+mkSt zs):=by
 intro zs
 induction zs with
 | nil =>
   intro p s m _ _ _ _ hm
   obtain ⟨m,rfl⟩:∃ k,m=k+1:=⟨m - 1,by simp at hm;omega⟩
   rw[f53.l0,lt_end]
   simp[br,marksSt,mkSt]
 | cons z zs ih =>
   intro p s m hx h0 h1 hp hm
   obtain ⟨m,rfl⟩:∃ k,m=k+1:=⟨m - 1,by simp at hm;omega⟩
   have hz:=hx z (by simp)
   have hmk:=mkE_nonneg z.es
   have hmk2:=mkSt_nonneg zs
   simp only[mkSt] at h1
   have h:p.length<(p++z::zs).length:=by simp
   have hlen:∀ y,(p++y::zs).length=(p++z::zs).length:=fun y=>by simp
   have hb:∀ (y:Strp) (c:Nat),c<5→Nat.ble (p.length * 5+c+1) (strps (p++y::zs)).length=true:=fun y c hc=>by
    rw[strps_length];apply le_ble;simp;omega
   have st:∀ (y z':Strp) (c:Nat) (v:T),c<5→stC z'=(stC y).set c v→setN (strps (p++y::zs)) (p.length * 5+c) [v]=strps (p++z'::zs):=fun y z' c v hc hy=>by
    rw[setN_one]
    have:=rows_set stC_length ⟨[],0,0,false,false⟩ (p++y::zs) p.length c v z' (by simp) hc (by simpa [List.getD] using hy)
    unfold strps
    rw[this];simp
   generalize hK:mkE z.es=K at *
   have w1:IntKind.i64.wrap (s+K+1)=s+K+1:=by rw[wrap64] <;>omega
   have w2:IntKind.i64.wrap (s+K+1+1)=s+K+2:=by rw[wrap64] <;>omega
   have w3:IntKind.i64.wrap (s+K+2+1)=s+K+3:=by rw[wrap64] <;>omega
   have w4:IntKind.i64.wrap (s+K+3+1)=s+K+4:=by rw[wrap64] <;>omega
   have em:=mks_e n z.es hz.2 hz.1 s h0 (by unfold mkE at hK;omega) hn
   have hK':s+2 * (z.es.length:Int)+(nmE z.es:Int)=s+K:=by rw[← hK];unfold mkE;omega
   rw[hK'] at em
   have e0:=st z ⟨marksE s z.es,z.tn,z.pan,z.mute,z.solo⟩ 0 (.lst z.es.length (effs (marksE s z.es))) (by decide) (by simp[stC,marksE_length])
   have e1:=st ⟨marksE s z.es,z.tn,z.pan,z.mute,z.solo⟩ ⟨marksE s z.es,s+K,z.pan,z.mute,z.solo⟩ 1 (.int .i64 (s+K)) (by decide) rfl
   have e2:=st ⟨marksE s z.es,s+K,z.pan,z.mute,z.solo⟩ ⟨marksE s z.es,s+K,FloatKind.f32.nearest (s+K+1),z.mute,z.solo⟩ 2 (.flt .f32 (FloatKind.f32.nearest (s+K+1))) (by decide) rfl
   have e3:=st ⟨marksE s z.es,s+K,FloatKind.f32.nearest (s+K+1),z.mute,z.solo⟩ ⟨marksE s z.es,s+K,FloatKind.f32.nearest (s+K+1),Int.tmod (s+K+2) 3==0,z.solo⟩ 3 (.bool (Int.tmod (s+K+2) 3==0)) (by decide) rfl
   have e4:=st ⟨marksE s z.es,s+K,FloatKind.f32.nearest (s+K+1),Int.tmod (s+K+2) 3==0,z.solo⟩ ⟨marksE s z.es,s+K,FloatKind.f32.nearest (s+K+1),Int.tmod (s+K+2) 3==0,Int.tmod (s+K+3) 3==0⟩ 4 (.bool (Int.tmod (s+K+3) 3==0)) (by decide) rfl
   have hat:sAt5 (p++z::zs) p.length=z:=by simp[sAt5,List.getD]
   have g3:(strps (p++z::zs))[p.length * 5+0]?=some (.lst z.es.length (effs z.es)):=by
    rw[st_get (c:=0) (by decide) _ _ h,hat];rfl
   have g4:okAt [.lst] (strps (p++z::zs)) (p.length * 5+0)=true:=by simp only[okAt,g3,isCK,Bool.and_self]
   have g5:nAt (strps (p++z::zs)) (p.length * 5+0)=z.es.length:=by unfold nAt;rw[g3]
   have g6:lAt (strps (p++z::zs)) (p.length * 5+0)=effs z.es:=by unfold lAt;rw[g3]
   have step:=ih (p++[⟨marksE s z.es,s+K,FloatKind.f32.nearest (s+K+1),Int.tmod (s+K+2) 3==0,Int.tmod (s+K+3) 3==0⟩]) (s+K+4) m (fun t ht=>hx t (by simp[ht])) (by omega) (by omega) (by simp at hp ⊢;omega) (by simp at hm;omega)
   rw[f53.l0,lt_mid,in_mid,toNat_len,wrap_len (z:=z) (show p.length<4611686018427387904 by simp at hp;omega)]
   simp only[br_t,gd_t,g4,Bool.and_self,g5,g6,em,bd_s,e0,hb _ 1 (by decide),e1,w1,hb _ 2 (by decide),e2,w2,hb _ 3 (by decide),e3,w3,hb _ 4 (by decide),e4,w4]
   have q1:(p++[(⟨marksE s z.es,s+K,FloatKind.f32.nearest (s+K+1),Int.tmod (s+K+2) 3==0,Int.tmod (s+K+3) 3==0⟩:Strp)])++zs=p++⟨marksE s z.es,s+K,FloatKind.f32.nearest (s+K+1),Int.tmod (s+K+2) 3==0,Int.tmod (s+K+3) 3==0⟩::zs:=by simp
   have q2:(p++[(⟨marksE s z.es,s+K,FloatKind.f32.nearest (s+K+1),Int.tmod (s+K+2) 3==0,Int.tmod (s+K+3) 3==0⟩:Strp)])++marksSt (s+K+4) zs=p++marksSt s (z::zs):=by simp[marksSt,hK]
   have q3:(p++[(⟨marksE s z.es,s+K,FloatKind.f32.nearest (s+K+1),Int.tmod (s+K+2) 3==0,Int.tmod (s+K+3) 3==0⟩:Strp)]).length=(p++[z]).length:=by simp
   rw[q1,q2,q3,hlen] at step
   rw[step]
   congr 3
   simp only[mkSt,hK];omega
theorem mks_st (n:Nat) (ss:List Strp) (hx:∀ s∈ss,s.es.length≤1048576∧∀ e∈s.es,e.nums.length≤1048576) (hl:ss.length≤1048576) (s:Int) (h0:0≤s) (h1:s+mkSt ss≤1099511627776) (hn:1048576<n) :
  f53 (n+3) ss.length (strps ss) s=some (s+mkSt ss,ss.length,strps (marksSt s ss)):=by
 have e:=mkl_st n hn ss [] s (n+2) hx h0 h1 (by simpa using hl) (by omega)
 have e:f53.l0 (n+2) (n+2) ss.length (strps ss) s 0=some (ss.length,strps (marksSt s ss),s+mkSt ss):=e
 rw[f53,e];rfl
theorem mk_sess (n:Nat) (cl:List Eff) (ss:List Strp) (h:Fin cl ss) (hn:1048576<n):f19 (n+4) cl.length (effs cl) ss.length (strps ss) 1=some (1+mkE cl+mkSt ss,cl.length,effs (marksE 1 cl),ss.length,strps (marksSt (1+mkE cl) ss)):=by
 have b1:=mkE_le cl
 have b2:=mkSt_le ss
 have b3:=mkE_nonneg cl
 have b4:=mkSt_nonneg ss
 have hc:=h.c
 have hs:=h.s
 have e1:=mks_c (n+1) cl (fin_c h).2 (fin_c h).1 1 (by omega) (by unfold mkE at b1;omega) (by omega)
 have e2:=mks_st n ss (fin_s h).2 (fin_s h).1 (1+mkE cl) (by omega) (by omega) hn
 have hq:(1:Int)+2 * (cl.length:Int)+(nmE cl:Int)=1+mkE cl:=by unfold mkE;omega
 rw[hq] at e1
 rw[f19,e1]
 simp only[bd_s,e2]
section
variable {E:Env} {tE tI tF tFs tEs tSt tCs tSs tS tC tB o1 o2 o3 o4 o5:Nat} {dE dI dF dFs dEs dSt dCs dSs dS dC dB:TD}
theorem effs_inv (hE:E.ty tE=some dE) (kE:dE.kd = .st [(o1,tI),(o2,tI),(o3,tFs)]) (hI:E.ty tI=some dI) (kI:dI.kd = .int .i64) (hFs:E.ty tFs=some dFs) (kFs:dFs.kd = .slc tF) (hF:E.ty tF=some dF) (kF:dF.kd = .flt .f32) :
  ∀ (n:Nat) (cs:List T),WTs E tE n cs→∃ es:List Eff,cs=effs es∧n=es.length∧∀ e∈es,GoodE e∧e.nums.length≤maxLen:=by
 intro n
 induction n with
 | zero=>intro cs h;cases h;exact ⟨[],rfl,rfl,by simp⟩
 | succ n ih =>
   intro cs h
   cases h with
   | snoc h hc =>
     obtain ⟨es,rfl,rfl,hx⟩:=ih _ h
     have hf:=hc.st_inv hE kE
     cases hf with
     | cons h1 r1 =>
       cases r1 with
       | cons h2 r2 =>
         cases r2 with
         | cons h3 r3 =>
           cases r3
           obtain ⟨a,rfl,ga⟩:=h1.int_inv hI kI
           obtain ⟨b,rfl,gb⟩:=h2.int_inv hI kI
           obtain ⟨k,us,rfl,gl,hu⟩:=h3.slc_inv hFs kFs
           obtain ⟨xs,rfl,rfl,gx⟩:=hu.flts hF kF
           refine ⟨es++[⟨a,b,xs⟩],?_,by simp,fun e he => ?_⟩
           ·unfold effs
            rw[List.flatMap_append];rfl
           ·simp only[List.mem_append,List.mem_singleton] at he
            rcases he with he | rfl
            ·exact hx e he
            ·exact ⟨⟨ga,gb,fun x hx=>(gx x hx).w32⟩,gl⟩
theorem strps_inv (hSt:E.ty tSt=some dSt) (kSt:dSt.kd = .st [(o1,tEs),(o2,tI),(o3,tF),(o4,tB),(o5,tB)]) (hB:E.ty tB=some dB) (kB:dB.kd = .bool) (hEs:E.ty tEs=some dEs) (kEs:dEs.kd = .slc tE) {p1 p2 p3:Nat}
  (hE:E.ty tE=some dE) (kE:dE.kd = .st [(p1,tI),(p2,tI),(p3,tFs)]) (hI:E.ty tI=some dI) (kI:dI.kd = .int .i64) (hFs:E.ty tFs=some dFs) (kFs:dFs.kd = .slc tF) (hF:E.ty tF=some dF) (kF:dF.kd = .flt .f32) :
  ∀ (n:Nat) (cs:List T),WTs E tSt n cs→∃ ss:List Strp,cs=strps ss∧n=ss.length∧∀ s∈ss,((∀ e∈s.es,GoodE e)∧GoodI .i64 s.tn∧W32 s.pan)∧s.es.length≤maxLen∧∀ e∈s.es,e.nums.length≤maxLen:=by
 intro n
 induction n with
 | zero=>intro cs h;cases h;exact ⟨[],rfl,rfl,by simp⟩
 | succ n ih =>
   intro cs h
   cases h with
   | snoc h hc =>
     obtain ⟨ss,rfl,rfl,hx⟩:=ih _ h
     have hf:=hc.st_inv hSt kSt
     cases hf with
     | cons h1 r1 =>
       cases r1 with
       | cons h2 r2 =>
         cases r2 with
         | cons h3 r3 =>
           cases r3 with
           | cons h4 r4 =>
             cases r4 with
             | cons h5 r5 =>
               cases r5
               obtain ⟨k,us,rfl,gl,hu⟩:=h1.slc_inv hEs kEs
               obtain ⟨es,rfl,rfl,ge⟩:=effs_inv hE kE hI kI hFs kFs hF kF _ _ hu
               obtain ⟨a,rfl,ga⟩:=h2.int_inv hI kI
               obtain ⟨p,rfl,gp⟩:=h3.flt_inv hF kF
               obtain ⟨b,rfl⟩:=h4.bool_inv hB kB
               obtain ⟨c,rfl⟩:=h5.bool_inv hB kB
               refine ⟨ss++[⟨es,a,p,b,c⟩],?_,by simp,fun s hs => ?_⟩
               ·unfold strps
                rw[List.flatMap_append];rfl
               ·simp only[List.mem_append,List.mem_singleton] at hs
                rcases hs with hs | rfl
                ·exact hx s hs
                ·exact ⟨⟨fun e he=>(ge e he).1,ga,gp.w32⟩,gl,fun e he=>(ge e he).2⟩
theorem session_inv (hS:E.ty tS=some dS) {q1 q2:Nat} (kS:dS.kd = .st [(q1,tCs),(q2,tSs)]) (hCs:E.ty tCs=some dCs) (kCs:dCs.kd = .slc tC) (hC:E.ty tC=some dC) {r1 r2 r3:Nat} (kC:dC.kd = .st [(r1,tI),(r2,tI),(r3,tFs)])
  (hSs:E.ty tSs=some dSs) (kSs:dSs.kd = .slc tSt)
  (hSt:E.ty tSt=some dSt) (kSt:dSt.kd = .st [(o1,tEs),(o2,tI),(o3,tF),(o4,tB),(o5,tB)]) (hB:E.ty tB=some dB) (kB:dB.kd = .bool) (hEs:E.ty tEs=some dEs) (kEs:dEs.kd = .slc tE) {p1 p2 p3:Nat}
  (hE:E.ty tE=some dE) (kE:dE.kd = .st [(p1,tI),(p2,tI),(p3,tFs)]) (hI:E.ty tI=some dI) (kI:dI.kd = .int .i64) (hFs:E.ty tFs=some dFs) (kFs:dFs.kd = .slc tF) (hF:E.ty tF=some dF) (kF:dF.kd = .flt .f32) {ts:List T} (h:WT E tS ts) :
  ∃ (cl:List Eff) (ss:List Strp),ts=[.lst cl.length (effs cl),.lst ss.length (strps ss)]∧GoodS cl ss∧Huge cl ss:=by
 have hm:maxLen≤9223372036854775807:=by decide
 have hf:=h.st_inv hS kS
 cases hf with
 | cons h1 r1 =>
   cases r1 with
   | cons h2 r2 =>
     cases r2
     obtain ⟨k,us,rfl,gl,hu⟩:=h1.slc_inv hCs kCs
     obtain ⟨cl,rfl,rfl,gc⟩:=effs_inv hC kC hI kI hFs kFs hF kF _ _ hu
     obtain ⟨k2,us2,rfl,gl2,hu2⟩:=h2.slc_inv hSs kSs
     obtain ⟨ss,rfl,rfl,gs⟩:=strps_inv hSt kSt hB kB hEs kEs hE kE hI kI hFs kFs hF kF _ _ hu2
     exact ⟨cl,ss,rfl,⟨fun c hc=>(gc c hc).1,fun s hs=>(gs s hs).1⟩,⟨by omega,fun e he=>Nat.le_trans (gc e he).2 hm,by omega,fun s hs=>⟨Nat.le_trans (gs s hs).2.1 hm,fun e he=>Nat.le_trans ((gs s hs).2.2 e he) hm⟩⟩⟩
end
structure Trk where
 xs:List Nat
 ten:Int
 pan:Nat
 mute:Bool
 solo:Bool
def trkC (t:Trk):List T:=[.lst t.xs.length (fls .f32 t.xs),.int .i64 t.ten,.flt .f32 t.pan,.bool t.mute,.bool t.solo]
def trks (ts:List Trk):List T:=ts.flatMap trkC
def TrkOk (t:Trk):Prop:=t.xs.length≤256∧(-2000≤t.ten∧t.ten≤2000)∧panB t.pan=true
def tAt (ts:List Trk) (i:Nat):Trk:=ts.getD i ⟨[],0,0,false,false⟩
theorem trk_get {c:Nat} (hc:c<5):∀ (ts:List Trk) (i:Nat),i<ts.length→(trks ts)[i * 5+c]?=(trkC (tAt ts i))[c]?
 | [],i,h=>by simp at h
 | t::ts,0,_=>by
   show (trkC t++trks ts)[0 * 5+c]?=_
   rw[List.getElem?_append_left (by simp[trkC];omega),Nat.zero_mul,Nat.zero_add];rfl
 | t::ts,i+1,h=>by
   show (trkC t++trks ts)[(i+1) * 5+c]?=_
   rw[List.getElem?_append_right (by simp[trkC];omega),show (i+1) * 5+c - (trkC t).length=i * 5+c by simp[trkC];omega,trk_get hc ts i (by simpa using h)]
   rfl
section
variable {ts:List Trk} {i:Nat} (h:i<ts.length)
include h
theorem okT:okAt [.lst,.int .i64,.flt .f32,.bool,.bool] (trks ts) (i * 5+0)=true:=by
 have h0:=trk_get (c:=0) (by decide) ts i h
 have h1:=trk_get (c:=1) (by decide) ts i h
 have h2:=trk_get (c:=2) (by decide) ts i h
 have h3:=trk_get (c:=3) (by decide) ts i h
 have h4:=trk_get (c:=4) (by decide) ts i h
 simp only[trkC,List.getElem?_cons_zero,List.getElem?_cons_succ] at h0 h1 h2 h3 h4
 simp[okAt,Nat.add_assoc,h1,h2,h3,h4,isCK]
 rw[show i * 5=i * 5+0 from rfl,h0]
theorem nT:nAt (trks ts) (i * 5+0)=(tAt ts i).xs.length:=by unfold nAt;rw[trk_get (c:=0) (by decide) ts i h];rfl
theorem lT:lAt (trks ts) (i * 5+0)=fls .f32 (tAt ts i).xs:=by unfold lAt;rw[trk_get (c:=0) (by decide) ts i h];rfl
theorem iT:iAt (trks ts) (i * 5+0+1)=(tAt ts i).ten:=by unfold iAt;rw[show i * 5+0+1=i * 5+1 from rfl,trk_get (c:=1) (by decide) ts i h];rfl
theorem fT:fAt (trks ts) (i * 5+0+1+1)=(tAt ts i).pan:=by unfold fAt;rw[show i * 5+0+1+1=i * 5+2 from rfl,trk_get (c:=2) (by decide) ts i h];rfl
theorem bT:bAt (trks ts) (i * 5+0+1+1+1)=(tAt ts i).mute:=by unfold bAt;rw[show i * 5+0+1+1+1=i * 5+3 from rfl,trk_get (c:=3) (by decide) ts i h];rfl
theorem cT:bAt (trks ts) (i * 5+0+1+1+1+1)=(tAt ts i).solo:=by unfold bAt;rw[show i * 5+0+1+1+1+1=i * 5+4 from rfl,trk_get (c:=4) (by decide) ts i h];rfl
theorem drop_at:ts.drop i=tAt ts i::ts.drop (i+1):=by
 rw[List.drop_eq_getElem_cons h]
 simp[tAt,List.getD,h]
theorem tAt_mem:tAt ts i∈ts:=by
 have:tAt ts i=ts[i]:=by simp[tAt,List.getD,h]
 rw[this];exact List.getElem_mem h
end
theorem push_trk (acc:List Trk) (t:Trk):trks acc++setN (reps 1 [(T.lst 0 []),(T.int .i64 (0:Int)),(T.flt .f32 0),(T.bool false),(T.bool false)]) 0 (trkC t)=trks (acc++[t]):=by
 unfold trks
 rw[List.flatMap_append,List.flatMap_singleton];rfl
def bls (bs:List Bool):List T:=bs.map .bool
theorem push_bls (p:List Bool) (b:Bool):bls p++setN (reps 1 [T.bool false]) 0 [T.bool b]=bls (p++[b]):=by simp[bls,setN,reps]
theorem bAt_bls {bs:List Bool} {i:Nat}:bAt (bls bs) i=bs.getD i false:=by
 unfold bAt bls
 rw[List.getElem?_map]
 cases h:bs[i]? <;>simp[List.getD,h]
theorem okAt_bls {bs:List Bool} {i:Nat} (h:i<bs.length):okAt [.bool] (bls bs) i=true:=by
 unfold bls
 simp[okAt,h,isCK]
def hf (a:Bool) (t:Trk):Bool:=if t.mute then false else if t.solo then true else !a
theorem heards_loop (n:Nat) (N:Nat) (cs:List T) (ts:List Trk) (hl:ts.length≤100):∀ (j i m:Nat) (P Q:List Bool),i+j=ts.length→P.length≤i→Q.length≤i→j<m →
  f71.l0 n m N cs P.length (bls P) Q.length (bls Q) ts.length (trks ts) (ts.length:Int) (i:Int)=some ((P++(ts.drop i).map (·.mute)).length,bls (P++(ts.drop i).map (·.mute)),(Q++(ts.drop i).map (·.solo)).length,bls (Q++(ts.drop i).map (·.solo))):=by
 intro j
 induction j with
 | zero =>
   intro i m P Q hi hP hQ hm
   obtain ⟨m,rfl⟩:∃ k,m=k+1:=⟨m - 1,by omega⟩
   rw[f71.l0,nlt_dec (by omega),List.drop_eq_nil_of_le (by omega)]
   simp[br]
 | succ j ih =>
   intro i m P Q hi hP hQ hm
   obtain ⟨m,rfl⟩:∃ k,m=k+1:=⟨m - 1,by omega⟩
   have h:i<ts.length:=by omega
   rw[f71.l0,lt_dec h,in_dec h,Int.toNat_natCast,okT h]
   simp only[br_t,Bool.and_self,gd_t,bT h,cT h,push_ok (show P.length<2147483648 by omega),push_ok (show Q.length<2147483648 by omega),push_bls,wrap_succ (show i<9223372036854775807 by omega)]
   rw[push_len (z:=(tAt ts i).mute),push_len (p:=Q) (z:=(tAt ts i).solo),ih (i+1) m _ _ (by omega) (by simp;omega) (by simp;omega) (by omega),drop_at h]
   simp
theorem index_loop (n:Nat) (bs:List Bool) (hl:bs.length≤100):∀ (j i m:Nat),i+j=bs.length→j<m →
  ((bs.drop i).any id=true→∃ k:Nat,f167.l0 n m bs.length (bls bs) true (bs.length:Int) (i:Int)=some (Sum.inl (k:Int)))∧((bs.drop i).any id=false→f167.l0 n m bs.length (bls bs) true (bs.length:Int) (i:Int)=some (Sum.inr ())):=by
 intro j
 induction j with
 | zero =>
   intro i m hi hm
   obtain ⟨m,rfl⟩:∃ k,m=k+1:=⟨m - 1,by omega⟩
   rw[List.drop_eq_nil_of_le (by omega),f167.l0,nlt_dec (by omega)]
   exact ⟨fun h=>by simp at h,fun _=>rfl⟩
 | succ j ih =>
   intro i m hi hm
   obtain ⟨m,rfl⟩:∃ k,m=k+1:=⟨m - 1,by omega⟩
   have h:i<bs.length:=by omega
   have hd:bs.drop i=bs.getD i false::bs.drop (i+1):=by
    rw[List.drop_eq_getElem_cons h];simp[List.getD,h]
   rw[f167.l0,lt_dec h,in_dec h,Int.toNat_natCast,okAt_bls h,bAt_bls,hd,wrap_succ (show i<9223372036854775807 by omega)]
   obtain ⟨i1,i2⟩:=ih (i+1) m (by omega) (by omega)
   cases hb:bs.getD i false
   ·simp only[List.any_cons,id,Bool.false_or]
    exact ⟨fun q=>i1 q,fun q=>i2 q⟩
   ·simp only[List.any_cons,id,Bool.true_or]
    exact ⟨fun _=>⟨i,rfl⟩,fun q=>by cases q⟩
theorem contains_true (n:Nat) (bs:List Bool) (hl:bs.length≤100) (hn:200<n):f139 (n+2) bs.length (bls bs) true=some (bs.any id):=by
 obtain ⟨h1,h2⟩:=index_loop n bs hl bs.length 0 n (by omega) (by omega)
 rw[List.drop_zero] at h1 h2
 rw[f139,f167]
 cases h:bs.any id
 ·have e:=h2 h
  have e:f167.l0 n n bs.length (bls bs) true (bs.length:Int) 0=_:=e
  rw[e];rfl
 ·obtain ⟨k,e⟩:=h1 h
  have e:f167.l0 n n bs.length (bls bs) true (bs.length:Int) 0=_:=e
  rw[e]
  simp only[bd_s,sm_l]
  rw[decide_eq_true (by omega)]
theorem map_at {α:Type} (f:Trk→Bool) {ts:List Trk} {i:Nat} (h:i<ts.length):(ts.map f).getD i false=f (tAt ts i):=by simp[List.getD,tAt,h]
theorem heard_loop (n:Nat) (N:Nat) (a:Bool) (ts:List Trk) (hl:ts.length≤100):∀ (j i m:Nat) (P:List Bool),i+j=ts.length→P.length≤i→j<m →
  f102.l0 n m ts.length (bls (ts.map (·.mute))) ts.length (bls (ts.map (·.solo))) a P.length (bls P) ts.length (bls (ts.map (·.mute))) (ts.length:Int) (i:Int)=some ((P++(ts.drop i).map (hf a)).length,bls (P++(ts.drop i).map (hf a))):=by
 intro j
 induction j with
 | zero =>
   intro i m P hi hP hm
   obtain ⟨m,rfl⟩:∃ k,m=k+1:=⟨m - 1,by omega⟩
   rw[f102.l0,nlt_dec (by omega),List.drop_eq_nil_of_le (by omega)]
   simp[br]
 | succ j ih =>
   intro i m P hi hP hm
   obtain ⟨m,rfl⟩:∃ k,m=k+1:=⟨m - 1,by omega⟩
   have h:i<ts.length:=by omega
   rw[f102.l0,lt_dec h,in_dec h,Int.toNat_natCast,okAt_bls (show i<(ts.map (·.mute)).length by simpa using h),okAt_bls (show i<(ts.map (·.solo)).length by simpa using h),bAt_bls,bAt_bls,map_at (α:=Unit) (·.mute) h,map_at (α:=Unit) (·.solo) h]
   simp only[br_t,Bool.and_self,gd_t,push_ok (show P.length<2147483648 by omega),push_bls,wrap_succ (show i<9223372036854775807 by omega)]
   have key:∀ b,hf a (tAt ts i)=b→f102.l0 n m ts.length (bls (ts.map (·.mute))) ts.length (bls (ts.map (·.solo))) a (P.length+1) (bls (P++[b])) ts.length (bls (ts.map (·.mute))) (ts.length:Int) ((i+1:Nat):Int)=some ((P++(ts.drop i).map (hf a)).length,bls (P++(ts.drop i).map (hf a))):=by
    intro b hb
    rw[push_len (z:=b),ih (i+1) m _ (by omega) (by simp;omega) (by omega),drop_at h,List.map_cons,hb]
    simp
   unfold hf at key
   cases hm':(tAt ts i).mute
   ·cases hs:(tAt ts i).solo
    ·simp only[Bool.not_false,br_t,br_f]
     exact key _ (by simp[hm',hs])
    ·simp only[Bool.not_false,br_t]
     exact key _ (by simp[hm',hs])
   ·simp only[Bool.not_true,br_f]
    exact key _ (by simp[hm'])
def anyS (ts:List Trk):Bool:=ts.any (·.solo)
theorem i_heardtracks (n:Nat) (ts:List Trk) (hl:ts.length≤100) (hn:300<n):f71 (n+4) ts.length (trks ts)=some ((ts.map (hf (anyS ts))).length,bls (ts.map (hf (anyS ts)))):=by
 have e:=heards_loop (n+3) ts.length (trks ts) ts hl ts.length 0 (n+3) [] [] (by omega) (by simp) (by simp) (by omega)
 simp only[List.drop_zero,List.nil_append] at e
 have e:f71.l0 (n+3) (n+3) ts.length (trks ts) 0 [] 0 [] ts.length (trks ts) (ts.length:Int) 0=_:=e
 have e2:=contains_true n (ts.map (·.solo)) (by simpa using hl) (by omega)
 have ha:(ts.map (·.solo)).any id=anyS ts:=by unfold anyS;rw[List.any_map];rfl
 rw[ha,List.length_map] at e2
 have e3:=heard_loop (n+2) ts.length (anyS ts) ts hl ts.length 0 (n+2) [] (by omega) (by simp) (by omega)
 simp only[List.drop_zero,List.nil_append] at e3
 have e3:f102.l0 (n+2) (n+2) ts.length (bls (ts.map (·.mute))) ts.length (bls (ts.map (·.solo))) (anyS ts) 0 [] ts.length (bls (ts.map (·.mute))) (ts.length:Int) 0=_:=e3
 rw[f71,e]
 simp only[bd_s,List.length_map]
 rw[f102]
 simp only[e2,bd_s,e3,List.length_map]
def hixGo (a:Bool):Nat→List Trk→List Nat
 | _,[]=>[]
 | i,t::ts=>if hf a t then i::hixGo a (i+1) ts else hixGo a (i+1) ts
def ints (ks:List Nat):List Int:=List.map (fun k:Nat=>(k:Int)) ks
theorem hix_facts (a:Bool) (ts:List Trk):∀ (j i:Nat),i+j=ts.length→(hixGo a i (ts.drop i)).map (tAt ts)=(ts.drop i).filter (hf a)∧∀ k∈hixGo a i (ts.drop i),k<ts.length∧(tAt ts k).mute=false:=by
 intro j
 induction j with
 | zero =>
   intro i hi
   rw[List.drop_eq_nil_of_le (by omega)]
   exact ⟨rfl,fun k hk=>by cases hk⟩
 | succ j ih =>
   intro i hi
   have h:i<ts.length:=by omega
   obtain ⟨i1,i2⟩:=ih (i+1) (by omega)
   rw[drop_at h]
   unfold hixGo
   cases hb:hf a (tAt ts i)
   ·simp only[Bool.false_eq_true,if_false]
    rw[List.filter_cons_of_neg (by rw[hb];decide)]
    exact ⟨i1,i2⟩
   ·simp only[if_true]
    rw[List.filter_cons_of_pos hb,List.map_cons,i1]
    refine ⟨rfl,fun k hk => ?_⟩
    rcases List.mem_cons.1 hk with rfl | hk
    ·refine ⟨h,?_⟩
     unfold hf at hb
     cases hm:(tAt ts k).mute
     ·rfl
     ·rw[hm] at hb;simp at hb
    ·exact i2 k hk
theorem or_loop (n:Nat) (ts:List Trk) (hl:ts.length≤100):∀ (j i m:Nat) (b:Bool),i+j=ts.length→j<m →
  f85.l0 n m ts.length (trks ts) b (ts.length:Int) (i:Int)=some (ts.length,trks ts,b||(ts.drop i).any (·.solo)):=by
 intro j
 induction j with
 | zero =>
   intro i m b hi hm
   obtain ⟨m,rfl⟩:∃ k,m=k+1:=⟨m - 1,by omega⟩
   rw[f85.l0,nlt_dec (by omega),List.drop_eq_nil_of_le (by omega)]
   simp[br]
 | succ j ih =>
   intro i m b hi hm
   obtain ⟨m,rfl⟩:∃ k,m=k+1:=⟨m - 1,by omega⟩
   have h:i<ts.length:=by omega
   rw[f85.l0,lt_dec h,in_dec h,Int.toNat_natCast,okT h,cT h,drop_at h,wrap_succ (show i<9223372036854775807 by omega)]
   simp only[br_t,Bool.and_self,gd_t]
   cases b
   ·rw[br_f,ih (i+1) m _ (by omega) (by omega)];simp
   ·rw[br_t,ih (i+1) m _ (by omega) (by omega)];simp
theorem s_hix_loop (n:Nat) (a:Bool) (ts:List Trk) (hl:ts.length≤100):∀ (j i m:Nat) (P:List Nat),i+j=ts.length→P.length≤i→j<m →
  f85.l1 n m ts.length (trks ts) a P.length (its .i64 (ints P)) (ts.length:Int) (i:Int)=some ((P++hixGo a i (ts.drop i)).length,its .i64 (ints (P++hixGo a i (ts.drop i)))):=by
 intro j
 induction j with
 | zero =>
   intro i m P hi hP hm
   obtain ⟨m,rfl⟩:∃ k,m=k+1:=⟨m - 1,by omega⟩
   rw[f85.l1,nlt_dec (by omega),List.drop_eq_nil_of_le (by omega)]
   simp[br,hixGo]
 | succ j ih =>
   intro i m P hi hP hm
   obtain ⟨m,rfl⟩:∃ k,m=k+1:=⟨m - 1,by omega⟩
   have h:i<ts.length:=by omega
   rw[f85.l1,lt_dec h,in_dec h,Int.toNat_natCast,okT h,bT h,cT h,drop_at h]
   simp only[br_t,Bool.and_self,gd_t,push_ok (show P.length<2147483648 by omega),push_its,wrap_succ (show i<9223372036854775807 by omega)]
   have yes:=ih (i+1) m (P++[i]) (by omega) (by simp;omega) (by omega)
   have no:=ih (i+1) m P (by omega) (by omega) (by omega)
   have yes':f85.l1 n m ts.length (trks ts) a (P.length+1) (its .i64 (ints P++[(i:Int)])) (ts.length:Int) ((i+1:Nat):Int)=some ((P++i::hixGo a (i+1) (ts.drop (i+1))).length,its .i64 (ints (P++i::hixGo a (i+1) (ts.drop (i+1))))):=by
    rw[show its .i64 (ints P++[(i:Int)])=its .i64 (ints (P++[i])) by simp[ints],push_len (z:=i),yes]
    simp
   unfold hixGo hf
   cases hm':(tAt ts i).mute
   ·cases hs:(tAt ts i).solo
    ·cases a
     ·simpa [br,hm',hs] using yes'
     ·simpa [br,hm',hs] using no
    ·simpa [br,hm',hs] using yes'
   ·simpa [br,hm'] using no
theorem s_heard_ (n:Nat) (ts:List Trk) (hl:ts.length≤100) (hn:200<n):f85 (n+1) ts.length (trks ts)=some ((hixGo (anyS ts) 0 ts).length,its .i64 (ints (hixGo (anyS ts) 0 ts))):=by
 have e1:=or_loop n ts hl ts.length 0 n false (by omega) (by omega)
 have e2:=s_hix_loop n (anyS ts) ts hl ts.length 0 n [] (by omega) (by simp) (by omega)
 rw[List.drop_zero] at e1 e2
 rw[Bool.false_or] at e1
 have e1:f85.l0 n n ts.length (trks ts) false (ts.length:Int) 0=some (ts.length,trks ts,anyS ts):=e1
 have e2:f85.l1 n n ts.length (trks ts) (anyS ts) 0 (reps 0 [(T.int .i64 (0:Int))]) (ts.length:Int) 0=some ((hixGo (anyS ts) 0 ts).length,its .i64 (ints (hixGo (anyS ts) 0 ts))):=by rw[List.nil_append] at e2;exact e2
 rw[f85,e1]
 simp only[bd_s,e2]
def expGo (x:Nat):List Nat→Nat→Nat
 | [],a=>a
 | k::ks,a=>expGo x ks (fadd .f64 4607182418800017408 (fdiv .f64 (fmul .f64 x a) k))
def downB:Nat→List Nat→Bool
 | w,[] => !fge .f64 w 4607182418800017408
 | w,k::ks=>(w==k)&&fge .f64 w 4607182418800017408&&downB (fsub .f64 w 4607182418800017408) ks
def downs:Nat→List Nat
 | 0=>[]
 | j+1=>FloatKind.f64.nearest ((j+1:Nat):Int)::downs j
theorem down_ok:downB 4622945017495814144 (downs 12)=true:=by decide +kernel
theorem i_exp_l0 (n x:Nat):∀ (ks:List Nat) (w a m:Nat),downB w ks=true→ks.length<m→f103.l0 n m x a w=some (expGo x ks a)
 | [],w,a,m,h,hm=>by
   obtain ⟨m,rfl⟩:∃ k,m=k+1:=⟨m - 1,by simp at hm;omega⟩
   unfold downB at h
   rw[f103.l0,show fge .f64 w 4607182418800017408=false by simpa using h];rfl
 | k::ks,w,a,m,h,hm=>by
   obtain ⟨m,rfl⟩:∃ k,m=k+1:=⟨m - 1,by simp at hm;omega⟩
   unfold downB at h
   simp only[Bool.and_eq_true,beq_iff_eq] at h
   obtain ⟨⟨rfl,h2⟩,h3⟩:=h
   rw[f103.l0,h2]
   exact i_exp_l0 n x ks _ _ m h3 (by simp at hm;omega)
def sqN:Nat→Nat→Nat
 | 0,x=>x
 | j+1,x=>sqN j (fmul .f64 x x)
theorem i_exp_l1 (n:Nat):∀ (j i m x:Nat),i+j=8→j<m→f103.l1 n m x (i:Int)=some (sqN j x)
 | 0,i,m,x,hi,hm=>by
   obtain ⟨m,rfl⟩:∃ k,m=k+1:=⟨m - 1,by omega⟩
   rw[f103.l1,decide_eq_false (by omega)];rfl
 | j+1,i,m,x,hi,hm=>by
   obtain ⟨m,rfl⟩:∃ k,m=k+1:=⟨m - 1,by omega⟩
   rw[f103.l1,decide_eq_true (by omega),wrap_succ (show i<9223372036854775807 by omega)]
   exact i_exp_l1 n j (i+1) m _ (by omega) (by omega)
theorem s_exp_l0 (n x:Nat):∀ (j a m:Nat),j≤1000→j<m→f112.l0 n m x a (j:Int)=some (expGo x (downs j) a)
 | 0,a,m,h,hm=>by
   obtain ⟨m,rfl⟩:∃ k,m=k+1:=⟨m - 1,by omega⟩
   rw[f112.l0,decide_eq_false (by omega)];rfl
 | j+1,a,m,h,hm=>by
   obtain ⟨m,rfl⟩:∃ k,m=k+1:=⟨m - 1,by omega⟩
   rw[f112.l0,decide_eq_true (by omega),show IntKind.i64.wrap (((j+1:Nat):Int) - 1)=(j:Int) by rw[wrap64] <;>omega]
   exact s_exp_l0 n x j _ m (by omega) (by omega)
theorem s_exp_l1 (n:Nat):∀ (j i m x:Nat),i+j=8→j<m→f112.l1 n m x (i:Int)=some (sqN j x)
 | 0,i,m,x,hi,hm=>by
   obtain ⟨m,rfl⟩:∃ k,m=k+1:=⟨m - 1,by omega⟩
   rw[f112.l1,decide_eq_false (by omega)];rfl
 | j+1,i,m,x,hi,hm=>by
   obtain ⟨m,rfl⟩:∃ k,m=k+1:=⟨m - 1,by omega⟩
   rw[f112.l1,decide_eq_true (by omega),wrap_succ (show i<9223372036854775807 by omega)]
   exact s_exp_l1 n j (i+1) m _ (by omega) (by omega)
theorem p2_num (n:Nat) (q:Rat) (h:((2 ^ n:Nat):Rat)=q):p2 (n:Int)=q:=by rw[p2_nat,h]
theorem rep_num (k:FloatKind) (n:Nat) (q:Rat) (h:((2 ^ n:Nat):Rat)=q) (hn:n≤64):Rep0 k q∧q<p2 (topE k):=by
 rw[← p2_num n q h]
 refine ⟨rep_p2 k ?_,p2_lt ?_⟩
 ·cases k
  ·show (-149:Int)≤n;omega
  ·show (-1074:Int)≤n;omega
 ·cases k
  ·show (n:Int)<128;omega
  ·show (n:Int)<1024;omega
theorem mul_in {a b A B:Rat} (ha : -A≤a) (ha':a≤A) (hb : -B≤b) (hb':b≤B) (hA:0≤A) (hB:0≤B):a * b≤A * B ∧ -(A * B)≤a * b:=by
 have h1:=Rat.mul_nonneg (show 0≤A - a by grind) (show 0≤B - b by grind)
 have h2:=Rat.mul_nonneg (show 0≤A+a by grind) (show 0≤B+b by grind)
 have h3:=Rat.mul_nonneg (show 0≤A - a by grind) (show 0≤B+b by grind)
 have h4:=Rat.mul_nonneg (show 0≤A+a by grind) (show 0≤B - b by grind)
 constructor <;>grind
theorem near_in {k:FloatKind} {v R B:Rat} (h:Near k v R) (hB:Rep0 k B) (h1 : -B≤v) (h2:v≤B) : -B≤R∧R≤B:=⟨(h _ hB.neg).2 h1,(h _ hB.rep).1 h2⟩
def argE (i:Int):Nat:=fmul .f64 (FloatKind.f64.nearest i) 4577790371455803420
def gnE (i:Int):Nat:=sqN 8 (expGo (fdiv .f64 (argE i) 4643211215818981376) (downs 12) 4607182418800017408)
def gT (i:Int):Nat:=(fltToFlt .f64 (gnE i) .f32).getD 0
theorem rep_q (m n:Nat) (q:Rat) (hm:m≤9007199254740992) (hn:n≤60) (h:q * ((2 ^ n:Nat):Rat)=(m:Rat)):Rep0 .f64 q:=by
 refine ⟨m,-(n:Int),hm,by show (-1074:Int) ≤ -(n:Int);omega,?_⟩
 have h2:p2 (-(n:Int)) * p2 (n:Int)=1:=by
  rw[← p2_add,show -(n:Int)+(n:Int)=0 by omega];exact p2_zero
 rw[p2_nat] at h2
 unfold mv
 rw[← h]
 generalize ((2 ^ n:Nat):Rat)=X at h2
 generalize p2 (-(n:Int))=Y at h2
 grind
theorem top_q (q:Rat) (h:q≤18446744073709551616):q<p2 (topE .f64):=by
 have h1:p2 64=18446744073709551616:=p2_num 64 _ (by rfl)
 have h2:p2 64<p2 1024:=p2_lt (by decide +kernel)
 exact rlt (h1 ▸ h) h2
theorem div_in {Q D b:Rat} (hD:1≤D) (h1 : -b≤Q) (h2:Q≤b) (hb:0≤b) : -b≤Q / D∧Q / D≤b:=by
 have hdiv:Q / D * D=Q:=Rat.div_mul_cancel (by grind)
 constructor
 ·rcases (Rat.le_total : -b≤Q / D∨Q / D ≤ -b) with h | h
  ·exact h
  ·have h3:=Rat.mul_nonneg (show 0 ≤ -b - Q / D by grind) (show 0≤D - 1 by grind)
   have h4:=Rat.mul_nonneg hb (show 0≤D - 1 by grind)
   grind
 ·rcases (Rat.le_total:Q / D≤b∨b≤Q / D) with h | h
  ·exact h
  ·have h3:=Rat.mul_nonneg (show 0≤Q / D - b by grind) (show 0≤D - 1 by grind)
   have h4:=Rat.mul_nonneg hb (show 0≤D - 1 by grind)
   grind
theorem exp_step {t p d:Nat} {T P D:Rat} (ht:Val .f64 t T) (hp:Val .f64 p P) (hd:Val .f64 d D) (t0 : -(3 / 32)≤T) (t1:T≤3 / 32) (p0:0≤P) (p1:P≤9 / 8) (d1:1≤D):∃ R,Val .f64 (fadd .f64 4607182418800017408 (fdiv .f64 (fmul .f64 t p) d)) R∧0≤R∧R≤9 / 8:=by
 have r1:Rep0 .f64 (27 / 256):=rep_q 27 8 _ (by decide +kernel) (by decide +kernel) (by decide +kernel)
 have r2:Rep0 .f64 (9 / 8):=rep_q 9 3 _ (by decide +kernel) (by decide +kernel) (by decide +kernel)
 obtain ⟨m1,m2⟩:=mul_in (A:=3 / 32) (B:=9 / 8) t0 t1 (show -(9 / 8)≤P by grind) p1 (by decide +kernel) (by decide +kernel)
 obtain ⟨Q,q1,q2⟩:=mul_val ht hp r1 (top_q _ (by decide +kernel)) (by grind) (by grind)
 obtain ⟨b1,b2⟩:=near_in q2 r1 (by grind) (by grind)
 obtain ⟨c1,c2⟩:=div_in d1 b1 b2 (by decide +kernel)
 obtain ⟨S,s1,s2⟩:=div_val q1 hd (by grind) r1 (top_q _ (by decide +kernel)) c2 c1
 obtain ⟨e1,e2⟩:=near_in s2 r1 c1 c2
 obtain ⟨R,w1,w2⟩:=add_val val_one64 s1 r2 (top_q _ (by decide +kernel)) (by grind) (by grind)
 exact ⟨R,w1,(w2 0 (repZ _)).2 (by grind),(w2 _ r2.rep).1 (by grind)⟩
theorem exp_all {t:Nat} {T:Rat} (ht:Val .f64 t T) (t0 : -(3 / 32)≤T) (t1:T≤3 / 32):∀ (j p:Nat) (P:Rat),j≤1000→Val .f64 p P→0≤P→P≤9 / 8→∃ R,Val .f64 (expGo t (downs j) p) R∧0≤R∧R≤9 / 8
 | 0,p,P,_,hp,p0,p1=>⟨P,hp,p0,p1⟩
 | j+1,p,P,hj,hp,p0,p1=>by
   have hd:Val .f64 (FloatKind.f64.nearest ((j+1:Nat):Int)) (((j+1:Nat):Int):Rat):=int_val (by show ((j+1:Nat):Int).natAbs≤2 * 4503599627370496;omega)
   have h1:(1:Rat)≤(((j+1:Nat):Int):Rat):=by
    have:(1:Int)≤((j+1:Nat):Int):=by omega
    exact_mod_cast this
   obtain ⟨R,r1,r2,r3⟩:=exp_step ht hp hd t0 t1 p0 p1 h1
   exact exp_all ht t0 t1 j _ R (by omega) r1 r2 r3
theorem sq_val {x:Nat} {X B C:Rat} (hx:Val .f64 x X) (h0:0≤X) (h1:X≤B) (hC:Rep0 .f64 C) (hB:B * B≤C) (hT:C≤18446744073709551616):∃ Y,Val .f64 (fmul .f64 x x) Y∧0≤Y∧Y≤C:=by
 have m0:=Rat.mul_nonneg h0 h0
 have hB0:0≤B:=by grind
 obtain ⟨m1,m2⟩:=mul_in (A:=B) (B:=B) (show -B≤X by grind) h1 (show -B≤X by grind) h1 hB0 hB0
 obtain ⟨Y,y1,y2⟩:=mul_val hx hx hC (top_q _ hT) (by grind) (by grind)
 exact ⟨Y,y1,(y2 0 (repZ _)).2 m0,(y2 _ hC.rep).1 (by grind)⟩
theorem gnE_val {k:Int} (h : -2000≤k∧k≤2000):∃ R,Val .f64 (argE k) R ∧ -(375 / 16)≤R∧R≤375 / 16:=by
 have hk:Val .f64 (FloatKind.f64.nearest k) (k:Rat):=int_val (by show k.natAbs≤2 * 4503599627370496;omega)
 have k1:(-2000:Rat)≤(k:Rat):=Rat.intCast_le_intCast.2 h.1
 have k2:(k:Rat)≤2000:=Rat.intCast_le_intCast.2 h.2
 have hc:=read_val (k:=.f64) (x:=4577790371455803420) (s:=false) (m:=6636749674749980) (e:=-59) (by decide +kernel)
 rw[sg_false] at hc
 have c0:=mv_nonneg 6636749674749980 (-59)
 have c1:mv 6636749674749980 (-59)≤3 / 256:=by
  have h2:mv 6636749674749980 (-59)≤mv (3 * 2 ^ 51) (-59):=mv_le.2 (by decide +kernel)
  rw[mv_shift] at h2
  have h3:p2 (-8) * 256=1:=by
   have:p2 (-8) * p2 8=1:=by rw[← p2_add];exact p2_zero
   rwa [show p2 8=256 from p2_num 8 _ (by rfl)] at this
  have h4:mv 3 (-59+(51:Nat))=3 * p2 (-8):=rfl
  grind
 have r1:Rep0 .f64 (375 / 16):=rep_q 375 4 _ (by decide +kernel) (by decide +kernel) (by decide +kernel)
 obtain ⟨m1,m2⟩:=mul_in (A:=2000) (B:=3 / 256) k1 k2 (show -(3 / 256)≤mv 6636749674749980 (-59) by grind) c1 (by decide +kernel) (by decide +kernel)
 obtain ⟨R,q1,q2⟩:=mul_val hk hc r1 (top_q _ (by decide +kernel)) (by grind) (by grind)
 obtain ⟨b1,b2⟩:=near_in q2 r1 (by grind) (by grind)
 exact ⟨R,q1,b1,b2⟩
theorem val_nearest {n:Int} {w:Nat} {q:Rat} (h:FloatKind.f64.nearest n=w) (hn:n.natAbs≤9007199254740992) (hq:(n:Rat)=q):Val .f64 w q:=by rw[← h,← hq];exact int_val hn
theorem gain_all {k:Int} (h : -2000≤k∧k≤2000):isNaN .f64 (argE k)=false∧fgt .f64 (argE k) 4641240890982006784=false∧flt .f64 (argE k) 13864612927836782592=false∧∃ y,fltToFlt .f64 (gnE k) .f32=some y:=by
 obtain ⟨A,a1,a2,a3⟩:=gnE_val h
 have v200:Val .f64 4641240890982006784 200:=val_nearest (n:=200) (by decide +kernel) (by decide +kernel) (by rfl)
 have vm200:Val .f64 13864612927836782592 (-200):=val_nearest (n:=-200) (by decide +kernel) (by decide +kernel) (by rfl)
 have v256:Val .f64 4643211215818981376 256:=val_nearest (n:=256) (by decide +kernel) (by decide +kernel) (by rfl)
 refine ⟨a1.num,?_,?_,?_⟩
 ·rw[Bool.eq_false_iff];intro h;have:=(fgt_val a1 v200).1 h;grind
 ·rw[Bool.eq_false_iff];intro h;have:=(flt_val a1 vm200).1 h;grind
 have r1:Rep0 .f64 (3 / 32):=rep_q 3 5 _ (by decide +kernel) (by decide +kernel) (by decide +kernel)
 have hdiv:A / 256 * 256=A:=Rat.div_mul_cancel (by decide +kernel)
 obtain ⟨Tt,t1,t2⟩:=div_val a1 v256 (by decide +kernel) r1 (top_q _ (by decide +kernel)) (by grind) (by grind)
 obtain ⟨t3,t4⟩:=near_in t2 r1 (by grind) (by grind)
 obtain ⟨P,p1,p3,p4⟩:=exp_all t1 t3 t4 12 _ 1 (by decide +kernel) val_one64 (by decide +kernel) (by decide +kernel)
 obtain ⟨X1,x1,y1,z1⟩:=sq_val (B:=9 / 8) (C:=11 / 8) p1 p3 p4 (rep_q 11 3 _ (by decide +kernel) (by decide +kernel) (by decide +kernel)) (by decide +kernel) (by decide +kernel)
 obtain ⟨X2,x2,y2,z2⟩:=sq_val (C:=2) x1 y1 z1 (rep_q 2 0 _ (by decide +kernel) (by decide +kernel) (by decide +kernel)) (by decide +kernel) (by decide +kernel)
 obtain ⟨X3,x3,y3,z3⟩:=sq_val (C:=4) x2 y2 z2 (rep_q 4 0 _ (by decide +kernel) (by decide +kernel) (by decide +kernel)) (by decide +kernel) (by decide +kernel)
 obtain ⟨X4,x4,y4,z4⟩:=sq_val (C:=16) x3 y3 z3 (rep_q 16 0 _ (by decide +kernel) (by decide +kernel) (by decide +kernel)) (by decide +kernel) (by decide +kernel)
 obtain ⟨X5,x5,y5,z5⟩:=sq_val (C:=256) x4 y4 z4 (rep_q 256 0 _ (by decide +kernel) (by decide +kernel) (by decide +kernel)) (by decide +kernel) (by decide +kernel)
 obtain ⟨X6,x6,y6,z6⟩:=sq_val (C:=65536) x5 y5 z5 (rep_q 65536 0 _ (by decide +kernel) (by decide +kernel) (by decide +kernel)) (by decide +kernel) (by decide +kernel)
 obtain ⟨X7,x7,y7,z7⟩:=sq_val (C:=4294967296) x6 y6 z6 (rep_q 4294967296 0 _ (by decide +kernel) (by decide +kernel) (by decide +kernel)) (by decide +kernel) (by decide +kernel)
 obtain ⟨X8,x8,y8,z8⟩:=sq_val (C:=18446744073709551616) x7 y7 z7 (rep_num .f64 64 _ (by rfl) (by decide +kernel)).1 (by decide +kernel) (by decide +kernel)
 have hE:gnE k=gnE k:=rfl
 refine fltToFlt_fits (k:=.f64) (k' :=.f32) (x:=gnE k) (E:=((64:Nat):Int)) (by decide +kernel) (by decide +kernel) (by decide +kernel) (fun s m e hd => ?_)
 have hv:=(read_val hd).inj x8
 rw[p2_num 64 18446744073709551616 (by rfl)]
 exact abs_le (mv_nonneg _ _) (by rw[hv];exact z8) (by rw[hv];grind)
theorem both_gain (n:Nat) {k:Int} (h : -2000≤k∧k≤2000):f72 (n+30) k=some (gT k,true)∧f86 (n+30) k=some (gT k):=by
 obtain ⟨h0,h1,h2,y,hy⟩:=gain_all h
 have hM:gT k=y:=by unfold gT;rw[hy];rfl
 have ht:=i_tenths (n+27) k
 rw[decide_eq_true h] at ht
 have ht:f64 (n+29) k=some true:=ht
 have ha:fmul .f64 (FloatKind.f64.nearest k) 4577790371455803420=argE k:=rfl
 rw[hM,f72,f86,ht]
 simp only[bd_s,Bool.not_true,br_f]
 rw[ha,f103,f112,fne_nan,h0,h1,h2]
 have e:=i_exp_l1 (n+28) 8 0 (n+28) (expGo (fdiv .f64 (argE k) 4643211215818981376) (downs 12) 4607182418800017408) (by omega) (by omega)
 have e:f103.l1 (n+28) (n+28) (expGo (fdiv .f64 (argE k) 4643211215818981376) (downs 12) 4607182418800017408) 0=some (gnE k):=e
 have f:=s_exp_l1 (n+28) 8 0 (n+28) (expGo (fdiv .f64 (argE k) 4643211215818981376) (downs 12) 4607182418800017408) (by omega) (by omega)
 have f:f112.l1 (n+28) (n+28) (expGo (fdiv .f64 (argE k) 4643211215818981376) (downs 12) 4607182418800017408) 0=some (gnE k):=f
 have g:=s_exp_l0 (n+28) (fdiv .f64 (argE k) 4643211215818981376) 12 4607182418800017408 (n+28) (by omega) (by omega)
 have g:f112.l0 (n+28) (n+28) (fdiv .f64 (argE k) 4643211215818981376) 4607182418800017408 12=_:=g
 simp only[br_f,i_exp_l0 (n+28) _ (downs 12) 4622945017495814144 4607182418800017408 (n+28) down_ok (by show 12<n+28;omega),bd_s,e,f,g]
 rw[f111,hy]
 exact ⟨rfl,rfl⟩
def sinP (u:Nat):List Nat→Nat→Nat
 | [],p=>p
 | d::ds,p=>sinP u ds (fsub .f64 4607182418800017408 (fdiv .f64 (fmul .f64 u p) d))
def sds:Nat→List Nat
 | 0=>[]
 | j+1=>FloatKind.f64.nearest (2 * ((j+1:Nat):Int) * (2 * ((j+1:Nat):Int)+1))::sds j
def sdownB:Nat→List Nat→Bool
 | w,[] => !fge .f64 w 4607182418800017408
 | w,d::ds=>fge .f64 w 4607182418800017408&&(fmul .f64 (fmul .f64 4611686018427387904 w) (fadd .f64 (fmul .f64 4611686018427387904 w) 4607182418800017408)==d)&&sdownB (fsub .f64 w 4607182418800017408) ds
theorem sdown_ok:sdownB 4620693217682128896 (sds 8)=true:=by decide +kernel
theorem i_sin_l0 (n:Nat) (b:Bool) (x u:Nat):∀ (ds:List Nat) (w p m:Nat),sdownB w ds=true→ds.length<m→f144.l0 n m b x u p w=some (b,x,sinP u ds p)
 | [],w,p,m,h,hm=>by
   obtain ⟨m,rfl⟩:∃ k,m=k+1:=⟨m - 1,by simp at hm;omega⟩
   unfold sdownB at h
   rw[f144.l0,show fge .f64 w 4607182418800017408=false by simpa using h];rfl
 | d::ds,w,p,m,h,hm=>by
   obtain ⟨m,rfl⟩:∃ k,m=k+1:=⟨m - 1,by simp at hm;omega⟩
   unfold sdownB at h
   simp only[Bool.and_eq_true,beq_iff_eq] at h
   obtain ⟨⟨h1,h2⟩,h3⟩:=h
   rw[f144.l0,h1,h2]
   exact i_sin_l0 n b x u ds _ _ m h3 (by simp at hm;omega)
theorem s_sin_l0 (n:Nat) (b:Bool) (x u:Nat):∀ (j p m:Nat),j≤1000→j<m→f149.l0 n m b x u p (j:Int)=some (b,x,sinP u (sds j) p)
 | 0,a,m,h,hm=>by
   obtain ⟨m,rfl⟩:∃ k,m=k+1:=⟨m - 1,by omega⟩
   rw[f149.l0,decide_eq_false (by omega)];rfl
 | j+1,a,m,h,hm=>by
   obtain ⟨m,rfl⟩:∃ k,m=k+1:=⟨m - 1,by omega⟩
   have w1:IntKind.i64.wrap (2 * ((j+1:Nat):Int))=2 * ((j+1:Nat):Int):=by rw[wrap64] <;>omega
   have w2:IntKind.i64.wrap (2 * ((j+1:Nat):Int)+1)=2 * ((j+1:Nat):Int)+1:=by rw[wrap64] <;>omega
   have hb:0≤2 * ((j+1:Nat):Int) * (2 * ((j+1:Nat):Int)+1):=Int.mul_nonneg (by omega) (by omega)
   have hc:2 * ((j+1:Nat):Int) * (2 * ((j+1:Nat):Int)+1)≤3000 * 3000:=Int.mul_le_mul (by omega) (by omega) (by omega) (by omega)
   have w3:IntKind.i64.wrap (2 * ((j+1:Nat):Int) * (2 * ((j+1:Nat):Int)+1))=2 * ((j+1:Nat):Int) * (2 * ((j+1:Nat):Int)+1):=by
    generalize 2 * ((j+1:Nat):Int) * (2 * ((j+1:Nat):Int)+1)=q at hb hc
    rw[wrap64] <;>omega
   rw[f149.l0,decide_eq_true (by omega),show IntKind.i64.wrap (((j+1:Nat):Int) - 1)=(j:Int) by rw[wrap64] <;>omega,w1,w2,w3]
   exact s_sin_l0 n b x u j _ m (by omega) (by omega)
theorem trunc_zero {x:Nat} {a:Rat} (hx:Val .f64 x a) (h0:0≤a) (h1:a<1):feq .f64 (integralF .zero x) 0=true∧fltToInt .f64 x .i64=some 0:=by
 obtain ⟨n,e,hn,-⟩:=toInt_nonneg (N:=1) hx h0 (by simpa using h1) (by decide)
 have:n=0:=by omega
 subst this
 refine ⟨?_,e⟩
 obtain ⟨s,m,i,e1,-⟩:=hx
 unfold fltToInt at e
 simp only[Ieee.Datum.toInt,e1,Ieee.Datum.integral,cut_zero] at e
 unfold integralF
 rw[e1]
 show feq .f64 (FloatKind.f64.encode (.number s (Ieee.Toward.cut .zero s (m <<< i.toNat) (-i).toNat) 0)) 0=true
 rw[cut_zero]
 generalize (m <<< i.toNat) / 2 ^ (-i).toNat=q at e
 split at e
 ·simp only[Option.some.injEq] at e
  have hq:q=0:=by
   unfold Ieee.signed at e
   cases s <;>simp at e <;>omega
  subst hq
  cases s <;>decide
 ·cases e
theorem val_four32:Val .f32 1082130432 4:=by
 have:=int_val (k:=.f32) (n:=4) (by decide)
 rw[show FloatKind.f32.nearest 4=1082130432 by decide] at this
 exact this
theorem p2_m2:p2 (-2) * 4=1:=by
 have:p2 (-2) * p2 2=1:=by rw[← p2_add];exact p2_zero
 rwa [show p2 2=4 by rw[show (2:Int)=((2:Nat):Int) from rfl,p2_nat];rfl] at this
theorem quarter {x:Nat} {v:Rat} (hx:Val .f32 x v) (h0:0≤v) (h1:v≤1):∃ R,Val .f32 (fdiv .f32 x 1082130432) R∧0≤R∧R * 4≤1:=by
 have hp:=p2_m2
 have hR0:Rep0 .f32 (p2 (-2)):=rep_p2 .f32 (by decide)
 have htop:p2 (-2)<p2 (topE .f32):=p2_lt (by decide)
 have hd:v / 4 * 4=v:=by grind
 obtain ⟨R,q1,q2⟩:=div_val hx val_four32 (by grind) hR0 htop (by grind) (by grind)
 exact ⟨R,q1,(q2 0 (repZ _)).2 (by grind),by have:=(q2 _ hR0.rep).1 (by grind);grind⟩
theorem less_one {x:Nat} {v:Rat} (hx:Val .f32 x v) (h0:0≤v) (h1:v≤1):∃ R,Val .f32 (fsub .f32 1065353216 x) R∧0≤R∧R≤1:=by
 have hR0:Rep0 .f32 (p2 0):=rep_p2 .f32 (by decide)
 have htop:p2 0<p2 (topE .f32):=p2_lt (by decide)
 have hz:=p2_zero
 obtain ⟨R,q1,q2⟩:=sub_val val_one32 hx hR0 htop (by grind) (by grind)
 exact ⟨R,q1,(q2 0 (repZ _)).2 (by grind),by have:=(q2 _ hR0.rep).1 (by grind);grind⟩
theorem pan_val {x:Nat} (h:panB x=true):∃ v,Val .f32 x v∧0≤v∧v≤1:=by
 unfold panB at h
 simp only[Bool.and_eq_true] at h
 obtain ⟨h1,h2⟩:=h
 cases hx:FloatKind.f32.decode x with
 | number s m e =>
   have hv:=read_val hx
   exact ⟨_,hv,(fge_val hv (val_zero _)).1 h1,(fle_val hv val_one32).1 h2⟩
 | infinity s =>
   exfalso
   have e2:FloatKind.f32.format.read 0 = .number false 0 (-149):=by decide
   have e3:FloatKind.f32.format.read 1065353216 = .number false 8388608 (-23):=by decide
   have hx:FloatKind.f32.format.read x = .infinity s:=hx
   cases s
   ·simp[fle,Ieee.Format.order,hx,e3,Ieee.Datum.order] at h2
   ·simp[fge,Ieee.Format.order,hx,e2,Ieee.Datum.order] at h1
 | nan s t =>
   exfalso
   have hx:FloatKind.f32.format.read x = .nan s t:=hx
   simp[fle,Ieee.Format.order,hx,Ieee.Datum.order] at h2
theorem val_turn:∃ C,Val .f64 4618760256179416344 C∧0≤C∧C≤7:=by
 have h:=read_val (k:=.f64) (x:=4618760256179416344) (s:=false) (m:=7074237752028440) (e:=-50) (by decide)
 refine ⟨_,h,mv_nonneg _ _,?_⟩
 rw[sg_false]
 have h2:mv 7074237752028440 (-50)≤mv (7 * 2 ^ 50) (-50):=mv_le.2 (by decide)
 rw[mv_shift] at h2
 have h3:mv 7 (-50+(50:Nat))=7:=by
  unfold mv;rw[show (-50+((50:Nat):Int))=0 by decide,p2_zero,Rat.mul_one];rfl
 rw[h3] at h2
 exact h2
theorem rep_three:Rep0 .f64 3:=⟨3,0,by decide,by decide,by unfold mv;rw[p2_zero,Rat.mul_one];rfl⟩
theorem sin_step {u p d:Nat} {U P D:Rat} (hu:Val .f64 u U) (hp:Val .f64 p P) (hd:Val .f64 d D) (u0 : -4≤U) (u1:U≤4) (p0 : -4≤P) (p1:P≤4) (d6:6≤D):∃ R,Val .f64 (fsub .f64 4607182418800017408 (fdiv .f64 (fmul .f64 u p) d)) R ∧ -4≤R∧R≤4:=by
 obtain ⟨r16,t16⟩:=rep_num .f64 4 16 (by rfl) (by decide)
 obtain ⟨r4,t4⟩:=rep_num .f64 2 4 (by rfl) (by decide)
 obtain ⟨m1,m2⟩:=mul_in (A:=4) (B:=4) u0 u1 p0 p1 (by decide) (by decide)
 obtain ⟨Q,q1,q2⟩:=mul_val hu hp r16 t16 (by grind) (by grind)
 obtain ⟨b1,b2⟩:=near_in q2 r16 (by grind) (by grind)
 have hdiv:Q / D * D=Q:=Rat.div_mul_cancel (by grind)
 have t3:(3:Rat)<p2 (topE .f64):=by have:(3:Rat)<4:=by decide
                                    grind
 have e1:Q / D≤3:=by
  rcases (Rat.le_total:Q / D≤3∨3≤Q / D) with h | h
  ·exact h
  ·have:=Rat.mul_nonneg (show 0≤Q / D - 3 by grind) (show 0≤D - 6 by grind)
   grind
 have e2 : -3≤Q / D:=by
  rcases (Rat.le_total : -3≤Q / D∨Q / D ≤ -3) with h | h
  ·exact h
  ·have:=Rat.mul_nonneg (show 0 ≤ -3 - Q / D by grind) (show 0≤D - 6 by grind)
   grind
 obtain ⟨S,s1,s2⟩:=div_val q1 hd (by grind) rep_three t3 e1 e2
 obtain ⟨c1,c2⟩:=near_in s2 rep_three e2 e1
 obtain ⟨R,w1,w2⟩:=sub_val val_one64 s1 r4 t4 (by grind) (by grind)
 obtain ⟨d1,d2⟩:=near_in w2 r4 (by grind) (by grind)
 exact ⟨R,w1,d1,d2⟩
theorem sin_all {u:Nat} {U:Rat} (hu:Val .f64 u U) (u0 : -4≤U) (u1:U≤4):∀ (ds:List Nat) (p:Nat) (P:Rat),(∀ d∈ds,∃ D,Val .f64 d D∧6≤D)→Val .f64 p P → -4≤P→P≤4→∃ R,Val .f64 (sinP u ds p) R ∧ -4≤R∧R≤4
 | [],p,P,_,hp,p0,p1=>⟨P,hp,p0,p1⟩
 | d::ds,p,P,hd,hp,p0,p1=>by
   obtain ⟨D,d1,d2⟩:=hd d (by simp)
   obtain ⟨R,r1,r2,r3⟩:=sin_step hu hp d1 u0 u1 p0 p1 d2
   exact sin_all hu u0 u1 ds _ R (fun d h=>hd d (by simp[h])) r1 r2 r3
theorem sds_val:∀ d∈sds 8,∃ D,Val .f64 d D∧6≤D:=by
 intro d hd
 have e:sds 8=([272,210,156,110,72,42,20,6]:List Int).map fun k=>FloatKind.f64.nearest k:=rfl
 rw[e] at hd
 obtain ⟨k,hk,rfl⟩:=List.mem_map.1 hd
 have hk:6≤k∧k≤272:=by
  simp only[List.mem_cons,List.not_mem_nil,or_false] at hk
  omega
 refine ⟨(k:Rat),int_val (by show k.natAbs≤2 * 4503599627370496;omega),?_⟩
 exact_mod_cast hk.1
def sinZ (a:Nat):Nat:=fmul .f64 (fsub .f64 (wide a) 0) 4618760256179416344
def sinM (a:Nat):Nat:=(fltToFlt .f64 (fmul .f64 (sinZ a) (sinP (fmul .f64 (sinZ a) (sinZ a)) (sds 8) 4607182418800017408)) .f32).getD 0
theorem m_trunc (n x:Nat):f178 (n+2) x=some (integralF .zero x):=by rw[f178];rfl
theorem both_sine (n:Nat) {a:Nat} {R:Rat} (ha:Val .f32 a R) (h0:0≤R) (h1:R * 4≤1):f104 (n+30) a=some (sinM a)∧f113 (n+30) a=some (sinM a):=by
 have hw:=wide_val ha
 have hz:=val_zero .f64
 have hnan:isNaN .f32 a=false:=ha.num
 obtain ⟨r1,t1⟩:=rep_num .f64 0 1 (by rfl) (by decide)
 obtain ⟨r2,t2⟩:=rep_num .f64 1 2 (by rfl) (by decide)
 obtain ⟨r4,t4⟩:=rep_num .f64 2 4 (by rfl) (by decide)
 obtain ⟨r8,t8⟩:=rep_num .f64 3 8 (by rfl) (by decide)
 obtain ⟨F,f1,f2⟩:=sub_val hw hz r1 t1 (by grind) (by grind)
 have hF:=f1.near_eq f2 (by rw[show R - 0=R by grind];exact hw.rep)
 rw[show R - 0=R by grind] at hF
 obtain ⟨G,g1,g2⟩:=sub_val hw hw r1 t1 (by grind) (by grind)
 have hG:=g1.near_eq g2 (by rw[show R - R=0 by grind];exact repZ _)
 rw[show R - R=0 by grind] at hG
 have hfin:feq .f64 (fsub .f64 (wide a) (wide a)) 0=true:=(feq_val hG hz).2 rfl
 obtain ⟨tz,ti⟩:=trunc_zero hw h0 (by grind)
 have hhalf:Val .f64 4602678819172646912 (p2 (-1)):=by
  have:=read_val (k:=.f64) (x:=4602678819172646912) (s:=false) (m:=4503599627370496) (e:=-53) (by decide)
  rw[sg_false,show (4503599627370496:Nat)=2 ^ 52 from rfl,mv_pow] at this
  exact this
 have hquart:Val .f64 4598175219545276416 (p2 (-2)):=by
  have:=read_val (k:=.f64) (x:=4598175219545276416) (s:=false) (m:=4503599627370496) (e:=-54) (by decide)
  rw[sg_false,show (4503599627370496:Nat)=2 ^ 52 from rfl,mv_pow] at this
  exact this
 have hp1:p2 (-1) * 2=1:=by
  have:p2 (-1) * p2 1=1:=by rw[← p2_add];exact p2_zero
  rwa [p2_one] at this
 have hp2:=p2_m2
 have c1:flt .f64 (fsub .f64 (wide a) 0) 0=false:=by
  rw[Bool.eq_false_iff];intro h;have:=(flt_val hF hz).1 h;grind
 have c2:fge .f64 (fsub .f64 (wide a) 0) 4602678819172646912=false:=by
  rw[Bool.eq_false_iff];intro h;have:=(fge_val hF hhalf).1 h;grind
 have c3:fgt .f64 (fsub .f64 (wide a) 0) 4598175219545276416=false:=by
  rw[Bool.eq_false_iff];intro h;have:=(fgt_val hF hquart).1 h;grind
 have hbig:Val .f64 4841369599423283200 (p2 52):=by
  have:=read_val (k:=.f64) (x:=4841369599423283200) (s:=false) (m:=4503599627370496) (e:=0) (by decide)
  rw[sg_false,show (4503599627370496:Nat)=2 ^ 52 from rfl,mv_pow] at this
  exact this
 have hlow:Val .f64 14064741636278059008 (-p2 52):=by
  have:=read_val (k:=.f64) (x:=14064741636278059008) (s:=true) (m:=4503599627370496) (e:=0) (by decide)
  rw[sg_true,show (4503599627370496:Nat)=2 ^ 52 from rfl,mv_pow] at this
  exact this
 have hone:1≤p2 52:=p2_ge_one 52
 have c4:fge .f64 (wide a) 4841369599423283200=false:=by
  rw[Bool.eq_false_iff];intro h;have:=(fge_val hw hbig).1 h;grind
 have c5:fle .f64 (wide a) 14064741636278059008=false:=by
  rw[Bool.eq_false_iff];intro h;have:=(fle_val hw hlow).1 h;grind
 obtain ⟨w1,w2,w3⟩:=wide_size hnan
 have hab:xAbs (n+28) (wide a)=some (wide (a % 2147483648)):=by
  unfold xAbs absF
  simp only[w2,w3,w1]
  rfl
 have c6:fge .f64 (wide (a % 2147483648)) 4841369599423283200=false:=by
  obtain ⟨s,m,e,e1,e2,-⟩:=ha
  have hv:=wide_val (read_val (decode_size.1 s m e e1))
  rw[sg_false] at hv
  have:mv m e * 4≤1:=by
   cases s
   ·rw[sg_false] at e2;grind
   ·rw[sg_true] at e2;grind
  rw[Bool.eq_false_iff];intro h;have:=(fge_val hv hbig).1 h;grind
 have hsine:f170 (n+28) (wide a)=some (fsub .f64 (wide a) 0):=by
  rw[f170,m_trunc]
  simp only[bd_s,tz,br_t,c1,br_f]
 obtain ⟨C,k1,k2,k3⟩:=val_turn
 have hm0:=Rat.mul_nonneg h0 k2
 have hm1:=Rat.mul_nonneg (show 0≤1 - R * 4 by grind) k2
 have hm2:(1 - R * 4) * C=C - R * C * 4:=by grind
 rw[hm2] at hm1
 obtain ⟨Z,z1,z2⟩:=mul_val hF k1 r2 t2 (by grind) (by grind)
 obtain ⟨z3,z4⟩:=near_in z2 r2 (by grind) (by grind)
 obtain ⟨m1,m2⟩:=mul_in (A:=2) (B:=2) z3 z4 z3 z4 (by decide) (by decide)
 obtain ⟨U,u1,u2⟩:=mul_val z1 z1 r4 t4 (by grind) (by grind)
 obtain ⟨u3,u4⟩:=near_in u2 r4 (by grind) (by grind)
 obtain ⟨P,p1,p3,p4⟩:=sin_all u1 u3 u4 (sds 8) _ _ sds_val val_one64 (by decide) (by decide)
 obtain ⟨n1,n2⟩:=mul_in (A:=2) (B:=4) z3 z4 p3 p4 (by decide) (by decide)
 obtain ⟨Y,y1,y2⟩:=mul_val z1 p1 r8 t8 (by grind) (by grind)
 obtain ⟨y3,y4⟩:=near_in y2 r8 (by grind) (by grind)
 obtain ⟨y,hy⟩:=fltToFlt_fits (k:=.f64) (k' :=.f32) (x:=fmul .f64 (sinZ a) (sinP (fmul .f64 (sinZ a) (sinZ a)) (sds 8) 4607182418800017408)) (E:=((3:Nat):Int)) (by decide) (by decide) (by decide) (by
  intro s m e hd
  have hv:=(read_val hd).inj y1
  rw[p2_num 3 8 (by rfl)]
  exact abs_le (mv_nonneg _ _) (by rw[hv];exact y4) (by rw[hv];exact y3))
 have hM:sinM a=y:=by unfold sinM;rw[hy];rfl
 have l1:=i_sin_l0 (n+28) false (sinZ a) (fmul .f64 (sinZ a) (sinZ a)) (sds 8) 4620693217682128896 4607182418800017408 (n+28) sdown_ok (by show 8<n+28;omega)
 have l2:=s_sin_l0 (n+28) false (sinZ a) (fmul .f64 (sinZ a) (sinZ a)) 8 4607182418800017408 (n+28) (by omega) (by omega)
 have l2:f149.l0 (n+28) (n+28) false (sinZ a) (fmul .f64 (sinZ a) (sinZ a)) 4607182418800017408 8=_:=l2
 have hz0:FloatKind.f64.nearest 0=0:=by decide
 have hne:fne .f64 (fsub .f64 (wide a) (wide a)) 0=false:=by rw[fne_feq,hfin];rfl
 rw[hM]
 unfold sinZ at l1 l2 hy
 constructor
 ·rw[f104,fltToFlt_wide]
  simp only[bd_s]
  rw[f141,f143,f144,hfin,hab,hsine]
  simp only[bd_s,Bool.not_true,br_f,c6,c2,c3,l1,hy]
 ·rw[f113,fltToFlt_wide]
  simp only[bd_s]
  rw[f149,hne,c4,c5,ti]
  simp only[bd_s,br_f,hz0,c1,c2,c3,l2]
  rw[f111,hy];rfl
def panL (x:Nat):Nat:=sinM (fdiv .f32 (fsub .f32 1065353216 x) 1082130432)
def panR (x:Nat):Nat:=sinM (fdiv .f32 x 1082130432)
theorem both_pan (n:Nat) {x:Nat} (h:panB x=true):f73 (n+31) x=some (panL x,panR x,true)∧f87 (n+31) x=some (panL x,panR x):=by
 obtain ⟨v,v1,v2,v3⟩:=pan_val h
 obtain ⟨A,a1,a2,a3⟩:=less_one v1 v2 v3
 obtain ⟨B,b1,b2,b3⟩:=quarter a1 a2 a3
 obtain ⟨C,c1,c2,c3⟩:=quarter v1 v2 v3
 obtain ⟨x1,y1⟩:=both_sine n b1 b2 b3
 obtain ⟨x2,y2⟩:=both_sine n c1 c2 c3
 have hp:=i_panB (n+29) x
 rw[h] at hp
 have hp:f65 (n+30) x=some true:=hp
 constructor
 ·rw[f73,hp]
  simp only[bd_s,Bool.not_true,br_f,x1,x2]
  rfl
 ·rw[f87,y1,y2]
  rfl
def addN (g p:Nat) (xs:List Nat):Nat→Nat→List Nat→List Nat
 | 0,_,L=>L
 | j+1,i,L=>addN g p xs j (i+1) (L.set i (fadd .f32 (L.getD i 0) (fmul .f32 (fmul .f32 (xs.getD i 0) g) p)))
theorem addN_length (g p:Nat) (xs:List Nat):∀ (j i:Nat) (L:List Nat),(addN g p xs j i L).length=L.length
 | 0,_,_=>rfl
 | j+1,i,L=>by
   show (addN g p xs j (i+1) _).length=_
   rw[addN_length g p xs j (i+1),List.length_set]
theorem addN_w32 (g p:Nat) (xs:List Nat):∀ (j i:Nat) (L:List Nat),(∀ x∈L,W32 x)→∀ x∈addN g p xs j i L,W32 x
 | 0,_,_,h=>h
 | j+1,i,L,h=>addN_w32 g p xs j (i+1) _ (by
   intro x hx
   rcases List.mem_or_eq_of_mem_set hx with h' | rfl
   ·exact h x h'
   ·exact w32_fadd _ _)
theorem ble_fls {k:FloatKind} {L:List Nat} {i:Nat} (h:i<L.length):Nat.ble (i+1) (fls k L).length=true:=by
 rw[Nat.ble_eq];simp[fls];omega
theorem take_at {xs:List Nat} {i k:Nat} (h:i<k):(xs.take k).getD i 0=xs.getD i 0:=by
 simp[List.getD,List.getElem?_take,h]
theorem mix_inner (n n1:Nat) (l2:List T) (N n8:Nat) (l9:List T) (g p q n13:Nat) (l14:List T) (i15 i16:Int) (xs:List Nat) (k:Nat) (hk:k≤xs.length) (hkN:k≤N) (hN:N≤1000):∀ (j i m:Nat) (L R:List Nat),i+j=k→L.length=N→R.length=N→j<m →
  f28.l1 n m n1 l2 (N:Int) N (fls .f32 L) N (fls .f32 R) n8 l9 g p q n13 l14 i15 i16 k (fls .f32 (xs.take k)) (k:Int) (i:Int)=some (n1,l2,(N:Int),N,fls .f32 (addN g p xs j i L),N,fls .f32 (addN g q xs j i R),n8,l9,n13,l14,i15,i16):=by
 intro j
 induction j with
 | zero =>
   intro i m L R hi hL hR hm
   obtain ⟨m,rfl⟩:∃ k,m=k+1:=⟨m - 1,by omega⟩
   rw[f28.l1,nlt_dec (by omega)];rfl
 | succ j ih =>
   intro i m L R hi hL hR hm
   obtain ⟨m,rfl⟩:∃ k,m=k+1:=⟨m - 1,by omega⟩
   have hik:i<k:=by omega
   have ht:i<(xs.take k).length:=by rw[List.length_take];omega
   rw[f28.l1,lt_dec hik,in_dec hik,in_dec (show i<N by omega),Int.toNat_natCast,okAt_fls ht,okAt_fls (show i<L.length by omega),okAt_fls (show i<R.length by omega),ble_fls (show i<L.length by omega),ble_fls (show i<R.length by omega),wrap_succ (show i<9223372036854775807 by omega)]
   simp only[br_t,Bool.and_self,gd_t,fAt_fls,take_at hik,setN_fls]
   exact ih (i+1) m _ _ (by omega) (by rw[List.length_set];exact hL) (by rw[List.length_set];exact hR) (by omega)
theorem s_mix_inner (n n1:Nat) (l2:List T) (N n8:Nat) (l9:List T) (i12:Int) (x13:Nat) (b14 b15:Bool) (g p q:Nat) (i20 i21:Int) (xs:List Nat) (hN:N≤1000):∀ (j i m:Nat) (L R:List Nat),i+j=min xs.length N→L.length=N→R.length=N→j<m →
  f46.l1 n m n1 l2 (N:Int) N (fls .f32 L) N (fls .f32 R) n8 l9 xs.length (fls .f32 xs) i12 x13 b14 b15 g p q (i:Int) i20 i21=some (n1,l2,(N:Int),N,fls .f32 (addN g p xs j i L),N,fls .f32 (addN g q xs j i R),n8,l9,i20,i21):=by
 intro j
 induction j with
 | zero =>
   intro i m L R hi hL hR hm
   obtain ⟨m,rfl⟩:∃ k,m=k+1:=⟨m - 1,by omega⟩
   rw[f46.l1]
   by_cases h1:i<N
   ·rw[lt_dec h1,nlt_dec (show xs.length≤i by omega)];rfl
   ·rw[nlt_dec (show N≤i by omega)];rfl
 | succ j ih =>
   intro i m L R hi hL hR hm
   obtain ⟨m,rfl⟩:∃ k,m=k+1:=⟨m - 1,by omega⟩
   have hx:i<xs.length:=by omega
   have hn:i<N:=by omega
   rw[f46.l1,lt_dec hn,lt_dec hx,in_dec hx,in_dec hn,Int.toNat_natCast,okAt_fls hx,okAt_fls (show i<L.length by omega),okAt_fls (show i<R.length by omega),ble_fls (show i<L.length by omega),ble_fls (show i<R.length by omega),wrap_succ (show i<9223372036854775807 by omega)]
   simp only[br_t,Bool.and_self,gd_t,fAt_fls,setN_fls]
   exact ih (i+1) m _ _ (by omega) (by rw[List.length_set];exact hL) (by rw[List.length_set];exact hR) (by omega)
def addT (N:Nat) (s:List Nat × List Nat) (t:Trk):List Nat × List Nat:=(addN (gT t.ten) (panL t.pan) t.xs (min t.xs.length N) 0 s.1,addN (gT t.ten) (panR t.pan) t.xs (min t.xs.length N) 0 s.2)
theorem addT_length {N:Nat} {s:List Nat × List Nat} {t:Trk}:(addT N s t).1.length=s.1.length∧(addT N s t).2.length=s.2.length:=⟨addN_length ..,addN_length ..⟩
theorem addTs_facts (N:Nat):∀ (ts:List Trk) (s:List Nat × List Nat),(∀ x∈s.1,W32 x)→(∀ x∈s.2,W32 x)→(ts.foldl (addT N) s).1.length=s.1.length∧(ts.foldl (addT N) s).2.length=s.2.length∧(∀ x∈(ts.foldl (addT N) s).1,W32 x)∧(∀ x∈(ts.foldl (addT N) s).2,W32 x)
 | [],s,h1,h2=>⟨rfl,rfl,h1,h2⟩
 | t::ts,s,h1,h2=>by
   obtain ⟨a,b,c,d⟩:=addTs_facts N ts (addT N s t) (addN_w32 _ _ _ _ _ _ h1) (addN_w32 _ _ _ _ _ _ h2)
   exact ⟨a.trans addT_length.1,b.trans addT_length.2,c,d⟩
theorem i_mix_loop2 (n n1:Nat) (l2:List T) (N:Nat) (hN:N≤1000) (a:Bool) (ts:List Trk) (hl:ts.length≤100) (ht:∀ t∈ts,TrkOk t) (hn:1000<n):∀ (j i m:Nat) (s:List Nat × List Nat),i+j=ts.length→s.1.length=N→s.2.length=N→j<m →
  f28.l0 (n+40) m n1 l2 (N:Int) N (fls .f32 s.1) N (fls .f32 s.2) ts.length (bls (ts.map (hf a))) ts.length (trks ts) (ts.length:Int) (i:Int)=some (N,fls .f32 (((ts.drop i).filter (hf a)).foldl (addT N) s).1,N,fls .f32 (((ts.drop i).filter (hf a)).foldl (addT N) s).2):=by
 intro j
 induction j with
 | zero =>
   intro i m s hi h1 h2 hm
   obtain ⟨m,rfl⟩:∃ k,m=k+1:=⟨m - 1,by omega⟩
   rw[f28.l0,nlt_dec (by omega),List.drop_eq_nil_of_le (by omega)];rfl
 | succ j ih =>
   intro i m s hi h1 h2 hm
   obtain ⟨m,rfl⟩:∃ k,m=k+1:=⟨m - 1,by omega⟩
   have h:i<ts.length:=by omega
   obtain ⟨t1,t2,t3⟩:=ht _ (tAt_mem h)
   have g1:f72 (n+40) (tAt ts i).ten=some (gT (tAt ts i).ten,true):=(both_gain (n+10) t2).1
   have g2:f73 (n+40) (tAt ts i).pan=some (panL (tAt ts i).pan,panR (tAt ts i).pan,true):=(both_pan (n+9) t3).1
   rw[f28.l0,lt_dec h,in_dec h,Int.toNat_natCast,okT h,okAt_bls (show i<(ts.map (hf a)).length by simpa using h),bAt_bls,map_at (α:=Unit) (hf a) h,drop_at h,wrap_succ (show i<9223372036854775807 by omega)]
   simp only[br_t,Bool.and_self,gd_t]
   cases hb:hf a (tAt ts i)
   ·rw[List.filter_cons_of_neg (by rw[hb];decide)]
    simp only[Bool.not_false,br_t]
    exact ih (i+1) m s (by omega) h1 h2 (by omega)
   ·rw[List.filter_cons_of_pos hb,List.foldl_cons]
    have hmin:(if (((tAt ts i).xs.length:Nat):Int)<(N:Int) then (((tAt ts i).xs.length:Nat):Int) else (N:Int))=((min (tAt ts i).xs.length N:Nat):Int):=by
     split <;>omega
    have hin:decide ((0:Int)≤0∧((0:Int)≤((min (tAt ts i).xs.length N:Nat):Int))∧(((min (tAt ts i).xs.length N:Nat):Int)≤(((tAt ts i).xs.length:Nat):Int)))=true:=decide_eq_true (by omega)
    have e:=mix_inner (n+40) n1 l2 N ts.length (bls (ts.map (hf a))) (gT (tAt ts i).ten) (panL (tAt ts i).pan) (panR (tAt ts i).pan) ts.length (trks ts) (ts.length:Int) (i:Int) (tAt ts i).xs (min (tAt ts i).xs.length N) (Nat.min_le_left _ _) (Nat.min_le_right _ _) hN (min (tAt ts i).xs.length N) 0 (n+40) s.1 s.2 (by omega) h1 h2 (by omega)
    have e:f28.l1 (n+40) (n+40) n1 l2 (N:Int) N (fls .f32 s.1) N (fls .f32 s.2) ts.length (bls (ts.map (hf a))) (gT (tAt ts i).ten) (panL (tAt ts i).pan) (panR (tAt ts i).pan) ts.length (trks ts) (ts.length:Int) (i:Int) (min (tAt ts i).xs.length N) (fls .f32 ((tAt ts i).xs.take (min (tAt ts i).xs.length N))) ((min (tAt ts i).xs.length N:Nat):Int) 0=_:=e
    simp only[Bool.not_true,br_f,nT h,lT h,iT h,fT h,g1,bd_s,g2,i_sized (n+39),hmin,hin,gd_t,Int.toNat_natCast,Nat.sub_zero,List.drop_zero,fls_take,e,wrap_succ (show i<9223372036854775807 by omega)]
    exact ih (i+1) m (addT N s (tAt ts i)) (by omega) (addT_length.1.trans h1) (addT_length.2.trans h2) (by omega)
theorem s_mix_loop2 (n:Nat) (N:Nat) (hN:N≤1000) (ts:List Trk) (hl:ts.length≤100) (ht:∀ t∈ts,TrkOk t) (hn:1000<n) (ks:List Nat) (hk:∀ k∈ks,k<ts.length) (hkl:ks.length≤1000):∀ (j i m:Nat) (s:List Nat × List Nat),i+j=ks.length→s.1.length=N→s.2.length=N→j<m →
  f46.l0 (n+40) m ts.length (trks ts) (N:Int) N (fls .f32 s.1) N (fls .f32 s.2) ks.length (its .i64 (ints ks)) (ks.length:Int) (i:Int)=some (N,fls .f32 (((ks.drop i).map (tAt ts)).foldl (addT N) s).1,N,fls .f32 (((ks.drop i).map (tAt ts)).foldl (addT N) s).2):=by
 intro j
 induction j with
 | zero =>
   intro i m s hi h1 h2 hm
   obtain ⟨m,rfl⟩:∃ k,m=k+1:=⟨m - 1,by omega⟩
   rw[f46.l0,nlt_dec (by omega),List.drop_eq_nil_of_le (by omega)];rfl
 | succ j ih =>
   intro i m s hi h1 h2 hm
   obtain ⟨m,rfl⟩:∃ k,m=k+1:=⟨m - 1,by omega⟩
   have h:i<ks.length:=by omega
   have hd:ks.drop i=ks.getD i 0::ks.drop (i+1):=by
    rw[List.drop_eq_getElem_cons h];simp[List.getD,h]
   have hmem:ks.getD i 0∈ks:=by
    have:ks.getD i 0=ks[i]:=by simp[List.getD,h]
    rw[this];exact List.getElem_mem h
   have hil:i<(ints ks).length:=by simpa [ints] using h
   have hv:(ints ks).getD i 0=((ks.getD i 0:Nat):Int):=by simp[ints,List.getD,h]
   have k1:=hk _ hmem
   rw[hd]
   generalize ks.getD i 0=k at hv k1 hmem
   obtain ⟨t1,t2,t3⟩:=ht _ (tAt_mem k1)
   have g1:f86 (n+40) (tAt ts k).ten=some (gT (tAt ts k).ten):=(both_gain (n+10) t2).2
   have g2:f87 (n+40) (tAt ts k).pan=some (panL (tAt ts k).pan,panR (tAt ts k).pan):=(both_pan (n+9) t3).2
   rw[f46.l0,lt_dec h,in_dec h,Int.toNat_natCast,okAt_its hil,iAt_its,hv,Int.toNat_natCast,in_dec k1,okT k1]
   have e:=s_mix_inner (n+40) ts.length (trks ts) N ks.length (its .i64 (ints ks)) (tAt ts k).ten (tAt ts k).pan (tAt ts k).mute (tAt ts k).solo (gT (tAt ts k).ten) (panL (tAt ts k).pan) (panR (tAt ts k).pan) (ks.length:Int) (i:Int) (tAt ts k).xs hN (min (tAt ts k).xs.length N) 0 (n+40) s.1 s.2 (by omega) h1 h2 (by omega)
   have e:f46.l1 (n+40) (n+40) ts.length (trks ts) (N:Int) N (fls .f32 s.1) N (fls .f32 s.2) ks.length (its .i64 (ints ks)) (tAt ts k).xs.length (fls .f32 (tAt ts k).xs) (tAt ts k).ten (tAt ts k).pan (tAt ts k).mute (tAt ts k).solo (gT (tAt ts k).ten) (panL (tAt ts k).pan) (panR (tAt ts k).pan) 0 (ks.length:Int) (i:Int)=_:=e
   simp only[br_t,Bool.and_self,gd_t,nT k1,lT k1,iT k1,fT k1,bT k1,cT k1,g1,bd_s,g2,e,wrap_succ (show i<9223372036854775807 by omega)]
   refine (ih (i+1) m (addT N s (tAt ts k)) (by omega) (addT_length.1.trans h1) (addT_length.2.trans h2) (by omega)).trans ?_
   rw[List.map_cons,List.foldl_cons]
def zs_ (N:Nat):List Nat × List Nat:=(List.replicate N 0,List.replicate N 0)
def mixM (N:Nat) (ts:List Trk):List Nat × List Nat:=(ts.filter (hf (anyS ts))).foldl (addT N) (zs_ N)
theorem mixM_length (N:Nat) (ts:List Trk):(mixM N ts).1.length=N∧(mixM N ts).2.length=N:=by
 have hw:∀ x∈List.replicate N 0,W32 x:=allW_zeros N
 obtain ⟨a,b,-⟩:=addTs_facts N (ts.filter (hf (anyS ts))) (zs_ N) hw hw
 exact ⟨a.trans (by simp[zs_]),b.trans (by simp[zs_])⟩
theorem both_mix (n N:Nat) (hN:N≤1000) (ts:List Trk) (hl:ts.length≤100) (ht:∀ t∈ts,TrkOk t) (hn:1000<n) :
  f28 (n+42) ts.length (trks ts) (N:Int)=some (N,fls .f32 (mixM N ts).1,N,fls .f32 (mixM N ts).2) ∧
  f46 (n+42) ts.length (trks ts) (N:Int)=some (N,fls .f32 (mixM N ts).1,N,fls .f32 (mixM N ts).2):=by
 constructor
 ·have e:=i_mix_loop2 (n+1) ts.length (trks ts) N hN (anyS ts) ts hl ht (by omega) ts.length 0 (n+41) (zs_ N) (by omega) (by simp[zs_]) (by simp[zs_]) (by omega)
  rw[List.drop_zero] at e
  have e:f28.l0 (n+41) (n+41) ts.length (trks ts) (N:Int) N (fls .f32 (List.replicate N 0)) N (fls .f32 (List.replicate N 0)) ts.length (bls (ts.map (hf (anyS ts)))) ts.length (trks ts) (ts.length:Int) 0=some (N,fls .f32 (mixM N ts).1,N,fls .f32 (mixM N ts).2):=e
  have z:=i_zeroed (n+40) N (by omega)
  have z:f70 (n+41) (N:Int)=_:=z
  have hh:=i_heardtracks (n+37) ts hl (by omega)
  have hh:f71 (n+41) ts.length (trks ts)=_:=hh
  rw[f28]
  simp only[bd_s,z,hh,List.length_map,e]
 ·obtain ⟨f1,f2⟩:=hix_facts (anyS ts) ts ts.length 0 (by omega)
  rw[List.drop_zero] at f1 f2
  have hkl:(hixGo (anyS ts) 0 ts).length≤1000:=by
   have:=congrArg List.length f1
   rw[List.length_map] at this
   have h2:=List.length_filter_le (hf (anyS ts)) ts
   omega
  have e:=s_mix_loop2 (n+1) N hN ts hl ht (by omega) (hixGo (anyS ts) 0 ts) (fun k hk=>(f2 k hk).1) hkl (hixGo (anyS ts) 0 ts).length 0 (n+41) (zs_ N) (by omega) (by simp[zs_]) (by simp[zs_]) (by omega)
  rw[List.drop_zero,f1] at e
  have e:f46.l0 (n+41) (n+41) ts.length (trks ts) (N:Int) N (fls .f32 (List.replicate N 0)) N (fls .f32 (List.replicate N 0)) (hixGo (anyS ts) 0 ts).length (its .i64 (ints (hixGo (anyS ts) 0 ts))) ((hixGo (anyS ts) 0 ts).length:Int) 0=some (N,fls .f32 (mixM N ts).1,N,fls .f32 (mixM N ts).2):=e
  have hh:=s_heard_ (n+40) ts hl (by omega)
  have hh:f85 (n+41) ts.length (trks ts)=_:=hh
  have hr:reps N [(T.flt .f32 0)]=fls .f32 (List.replicate N 0):=by
   simp[reps,fls]
  rw[f46,decide_eq_true (show (0:Int)≤(N:Int)∧(N:Int)≤2147483648 by omega)]
  simp only[bd_s,gd_t,Int.toNat_natCast,hr,hh,e]
def trkM (E:Nat→List Ef) (cl:List Eff) (ss:List Strp) (k i:Nat):Trk:=⟨chanM (E i) (i:Int) cl k,(sAt5 ss i).tn,(sAt5 ss i).pan,(sAt5 ss i).mute,(sAt5 ss i).solo⟩
def trksM (E:Nat→List Ef) (cl:List Eff) (ss:List Strp) (k i:Nat):List Trk:=(List.range i).map (trkM E cl ss k)
theorem trksM_length (E:Nat→List Ef) (cl:List Eff) (ss:List Strp) (k i:Nat):(trksM E cl ss k i).length=i:=by simp[trksM]
theorem trksM_succ (E:Nat→List Ef) (cl:List Eff) (ss:List Strp) (k i:Nat):trksM E cl ss k (i+1)=trksM E cl ss k i++[trkM E cl ss k i]:=by simp[trksM,List.range_succ]
def EfsOk (E:Nat→List Ef) (ss:List Strp):Prop:=∀ i,i<ss.length→effL (E i)=(sAt5 ss i).es∧(∀ e∈E i,e.Ok)∧(E i).length≤8
theorem efs_all {cl:List Eff} {ss:List Strp} (h:SOk cl ss) (hg:GoodS cl ss):∃ E,EfsOk E ss:=by
 have:∀ i,∃ es:List Ef,i<ss.length→effL es=(sAt5 ss i).es∧(∀ e∈es,e.Ok)∧es.length≤8:=by
  intro i
  by_cases hi:i<ss.length
  ·obtain ⟨es,h1⟩:=strip_efs h hg (sAt5_mem hi)
   exact ⟨es,fun _=>h1⟩
  ·exact ⟨[],fun h=>absurd h hi⟩
 exact ⟨fun i=>Classical.choose (this i),fun i hi=>Classical.choose_spec (this i) hi⟩
theorem i_tracks_loop (n:Nat) (hn:1200<n) (cl:List Eff) (ss:List Strp) (h:SOk cl ss) (E:Nat→List Ef) (hE:EfsOk E ss) (k:Nat) (hk:k≤256) (hl:ss.length≤8):∀ (j i m:Nat),i+j=ss.length→j<m →
  f9.l0 (n+150) m (k:Int) cl.length (effs cl) ss.length (strps ss) (trksM E cl ss k i).length (trks (trksM E cl ss k i)) ss.length (strps ss) (ss.length:Int) (i:Int)=some ((k:Int),ss.length,trks (trksM E cl ss k ss.length)):=by
 intro j
 induction j with
 | zero =>
   intro i m hi hm
   obtain ⟨m,rfl⟩:∃ k,m=k+1:=⟨m - 1,by omega⟩
   obtain rfl:i=ss.length:=by omega
   rw[f9.l0,nlt_dec (by omega),trksM_length];rfl
 | succ j ih =>
   intro i m hi hm
   obtain ⟨m,rfl⟩:∃ k,m=k+1:=⟨m - 1,by omega⟩
   have hs:i<ss.length:=by omega
   obtain ⟨e1,e2,e3⟩:=hE i hs
   have g:=i_channel (n+46) (by omega) h i k hs hk (E i) e1 e2 e3
   have g:f27 (n+150) cl.length (effs cl) ss.length (strps ss) (i:Int) (k:Int)=_:=g
   have f1:=(chan_facts e2 (i:Int) cl k).1
   have hp:=push_trk (trksM E cl ss k i) (trkM E cl ss k i)
   have hpl:=push_len (p:=trksM E cl ss k i) (z:=trkM E cl ss k i)
   rw[← trksM_succ] at hp hpl
   have hrow:∀ (a b c d e:T),setN (setN (setN (setN (setN [(T.lst 0 []),(T.int .i64 (0:Int)),(T.flt .f32 0),(T.bool false),(T.bool false)] 0 [a]) 1 [b]) 2 [c]) 3 [d]) 4 [e]=[a,b,c,d,e]:=fun _ _ _ _ _=>rfl
   rw[f9.l0,lt_dec hs,in_dec hs,Int.toNat_natCast,okS5 hs]
   unfold trkC at hp
   unfold trkM at hp
   rw[f1] at hp
   simp only[br_t,Bool.and_self,gd_t,tS5 hs,pS5 hs,mS5 hs,oS5 hs,g,bd_s,f1,push_ok (show (trksM E cl ss k i).length<2147483648 by rw[trksM_length];omega),hrow]
   rw[hp,hpl,wrap_succ (show i<9223372036854775807 by omega)]
   exact ih (i+1) m (by omega) (by omega)
theorem trksM_ok {cl:List Eff} {ss:List Strp} (h:SOk cl ss) {E:Nat→List Ef} (hE:EfsOk E ss) {k:Nat} (hk:k≤256):∀ t∈trksM E cl ss k ss.length,TrkOk t:=by
 intro t ht
 unfold trksM at ht
 obtain ⟨i,hi,rfl⟩:=List.mem_map.1 ht
 have hi:=List.mem_range.1 hi
 obtain ⟨e1,e2,e3⟩:=hE i hi
 have f1:=(chan_facts e2 (i:Int) cl k).1
 obtain ⟨-,s1,s2⟩:=h.s _ (sAt5_mem hi)
 exact ⟨by show (chanM (E i) (i:Int) cl k).length≤256;omega,s1,s2⟩
theorem addAt_take (x:Nat) (q:Nat) (p:Int) (out:List Nat) (hq:q≤out.length):(addAt p x out).take q=addAt p x (out.take q):=by
 unfold addAt
 have hl:(out.take q).length=q:=by rw[List.length_take];omega
 by_cases h1:0≤p∧p<(q:Int)
 ·rw[if_pos (by omega),if_pos (by omega),List.take_set]
  congr 2
  simp[List.getD,List.getElem?_take,show p.toNat<q by omega]
 ·rw[if_neg (show ¬ (0≤p∧p<((out.take q).length:Int)) by omega)]
  by_cases h2:0≤p∧p<(out.length:Int)
  ·rw[if_pos h2,List.take_set,List.set_eq_of_length_le (by rw[hl];omega)]
  ·rw[if_neg h2]
theorem addClip_take (q:Nat):∀ (xs:List Nat) (p:Int) (out:List Nat),q≤out.length→(addClip p xs out).take q=addClip p xs (out.take q)
 | [],_,_,_=>rfl
 | x::xs,p,out,h=>by rw[addClip,addClip_take q xs _ _ (by rw[addAt_length];exact h),addAt_take x q p out h];rfl
theorem trackGo_take (q:Nat) (track frm:Int):∀ (cs:List Eff) (out:List Nat),q≤out.length→(trackGo track frm cs out).take q=trackGo track frm cs (out.take q)
 | [],_,_=>rfl
 | c::cs,out,h=>by
   rw[trackGo,trackGo_take q track frm cs _ (by split <;>simp[addClip_length,h])]
   show _=trackGo track frm cs (if c.kind=track then addClip (c.len - frm) c.nums (out.take q) else out.take q)
   split
   ·rw[addClip_take q _ _ _ h]
   ·rfl
def trM (cl:List Eff) (k:Nat) (i:Nat):List Nat:=trackGo (i:Int) 0 cl (List.replicate k 0)
theorem trM_length (cl:List Eff) (k i:Nat):(trM cl k i).length=k:=by unfold trM;rw[trackGo_length,List.length_replicate]
theorem trM_w32 (cl:List Eff) (k i:Nat):AllW (trM cl k i):=trackGo_w32 _ _ _ _ (allW_zeros k)
theorem trM_take (cl:List Eff) {k q:Nat} (i:Nat) (h:q≤k):trM cl q i=(trM cl k i).take q:=by
 unfold trM
 rw[trackGo_take q _ _ _ _ (by simpa using h),List.take_replicate,Nat.min_eq_left h]
theorem allW_take {xs:List Nat} (h:AllW xs) (q:Nat):AllW (xs.take q):=fun y hy=>h y (List.mem_of_mem_take hy)
theorem allW_drop {xs:List Nat} (h:AllW xs) (q:Nat):AllW (xs.drop q):=fun y hy=>h y (List.mem_of_mem_drop hy)
def stAt (E:Nat→List Ef) (cl:List Eff) (k p i:Nat):List (List Nat):=(chainGo (E i) ((E i).map newRow) ((trM cl k i).take p)).2
def cut (p q:Nat) (xs:List Nat):List Nat:=(xs.take q).drop p
theorem cut_length {p q:Nat} {xs:List Nat} (hq:q≤xs.length):(cut p q xs).length=q - p:=by unfold cut;rw[List.length_drop,List.length_take];omega
theorem take_cut {p q:Nat} (xs:List Nat) (h:p≤q):xs.take p++cut p q xs=xs.take q:=by
 unfold cut
 have:=List.take_append_drop p (xs.take q)
 rwa [List.take_take,Nat.min_eq_left h] at this
theorem chain_cut {es:List Ef} (ho:∀ e∈es,e.Ok) {xs:List Nat} (hx:AllW xs) {p q:Nat} (h:p≤q) (hq:q≤xs.length) :
  (chainGo es (chainGo es (es.map newRow) (xs.take p)).2 (cut p q xs)).1=cut p q (chainGo es (es.map newRow) xs).1∧(chainGo es (chainGo es (es.map newRow) (xs.take p)).2 (cut p q xs)).2=(chainGo es (es.map newRow) (xs.take q)).2:=by
 have hf:=(new_ok es).fits
 have e1:=chain_append es (es.map newRow) (xs.take p) (cut p q xs) hf
 rw[take_cut xs h] at e1
 have e2:=chain_append es (es.map newRow) (xs.take q) (xs.drop q) hf
 rw[List.take_append_drop] at e2
 have l1:=(chain_fit es (es.map newRow) (xs.take p) ho hf (allW_take hx p)).2.2
 have l2:=(chain_fit es (es.map newRow) (xs.take q) ho hf (allW_take hx q)).2.2
 rw[List.length_take] at l1 l2
 constructor
 ·unfold cut
  have h2:(chainGo es (es.map newRow) xs).1.take q=(chainGo es (es.map newRow) (xs.take q)).1:=by
   rw[e2];exact List.take_left' (by omega)
  rw[h2,e1]
  exact (List.drop_left' (by omega)).symm
 ·rw[e1]
def stL (f:Nat→List (List Nat)) (N:Nat):List T:=(List.range N).map fun j=>T.lst (f j).length ((f j).map rwF)
theorem stL_length (f:Nat→List (List Nat)) (N:Nat):(stL f N).length=N:=by simp[stL]
theorem stL_at {f:Nat→List (List Nat)} {N i:Nat} (h:i<N):(stL f N)[i]?=some (T.lst (f i).length ((f i).map rwF)):=by simp[stL,h]
theorem okSt {f:Nat→List (List Nat)} {N i:Nat} (h:i<N):okAt [.lst] (stL f N) i=true:=by simp[okAt,stL_at h,isCK]
theorem nSt {f:Nat→List (List Nat)} {N i:Nat} (h:i<N):nAt (stL f N) i=(f i).length:=by unfold nAt;rw[stL_at h]
theorem lSt {f:Nat→List (List Nat)} {N i:Nat} (h:i<N):lAt (stL f N) i=(f i).map rwF:=by unfold lAt;rw[stL_at h]
theorem stL_set {f g:Nat→List (List Nat)} {N i:Nat} (hi:i<N) (hg:∀ j,j<N→g j=if j=i then g i else f j):setN (stL f N) i [T.lst (g i).length ((g i).map rwF)]=stL g N:=by
 rw[setN_one]
 apply List.ext_getElem?
 intro j
 by_cases hj:j<N
 ·rw[stL_at hj,List.getElem?_set]
  by_cases hij:i=j
  ·subst hij
   rw[if_pos rfl,if_pos (by rw[stL_length];exact hi)]
  ·rw[if_neg hij,stL_at hj,hg j hj,if_neg (fun e=>hij e.symm)]
 ·rw[List.getElem?_eq_none (by rw[List.length_set,stL_length];omega),List.getElem?_eq_none (by rw[stL_length];omega)]
theorem stL_push {f:Nat→List (List Nat)} {i:Nat}:stL f i++setN (reps 1 [(T.lst 0 [])]) 0 [T.lst (f i).length ((f i).map rwF)]=stL f (i+1):=by
 simp[stL,List.range_succ,setN,reps]
theorem stL_congr {f g:Nat→List (List Nat)} {N:Nat} (h:∀ j,j<N→f j=g j):stL f N=stL g N:=by
 unfold stL
 exact List.map_congr_left fun j hj=>by rw[h j (List.mem_range.1 hj)]
theorem chain_nil:∀ (es:List Ef) (ls:List (List Nat)),Fits es ls→(chainGo es ls []).2=ls
 | [],[],_=>rfl
 | e::es,w::ls,h=>by
   show (scan e.step w []).2::(chainGo es ls []).2=w::ls
   rw[chain_nil es ls h.2];rfl
theorem news_loop (n:Nat) (hn:1200<n) (cl:List Eff) (ss:List Strp) (E:Nat→List Ef) (hE:EfsOk E ss) (k sz:Int) (hl:ss.length≤8):∀ (j i m:Nat),i+j=ss.length→j<m →
  f22.l0 (n+150) m k sz cl.length (effs cl) ss.length (strps ss) i (stL (fun j=>(E j).map newRow) i) (ss.length:Int) (i:Int)=some (k,sz,cl.length,effs cl,ss.length,strps ss,ss.length,stL (fun j=>(E j).map newRow) ss.length):=by
 intro j
 induction j with
 | zero =>
   intro i m hi hm
   obtain ⟨m,rfl⟩:∃ k,m=k+1:=⟨m - 1,by omega⟩
   obtain rfl:i=ss.length:=by omega
   rw[f22.l0,nlt_dec (by omega)];rfl
 | succ j ih =>
   intro i m hi hm
   obtain ⟨m,rfl⟩:∃ k,m=k+1:=⟨m - 1,by omega⟩
   have hs:i<ss.length:=by omega
   obtain ⟨e1,e2,e3⟩:=hE i hs
   have g:=s_newstate (n+148) (E i) (by omega) e2 (by omega)
   have hle:(sAt5 ss i).es.length=(E i).length:=by rw[← e1,effL_length]
   rw[e1,← hle] at g
   have g:f54 (n+150) (sAt5 ss i).es.length (effs (sAt5 ss i).es)=_:=g
   have hp:=stL_push (f:=fun j=>(E j).map newRow) (i:=i)
   have hb:Nat.ble (i+1) 2147483648=true:=by rw[Nat.ble_eq];omega
   rw[f22.l0,lt_dec hs,in_dec hs,Int.toNat_natCast,okS5 hs]
   simp only[br_t,Bool.and_self,gd_t,nS5 hs,lS5 hs,g,bd_s,hb,hp,wrap_succ (show i<9223372036854775807 by omega)]
   exact ih (i+1) m (by omega) (by omega)
def cutT (p q:Nat) (t:Trk):Trk:=⟨cut p q t.xs,t.ten,t.pan,t.mute,t.solo⟩
def blkM (E:Nat→List Ef) (cl:List Eff) (ss:List Strp) (k p q i:Nat):List Trk:=(List.range i).map fun j=>cutT p q (trkM E cl ss k j)
theorem blkM_length (E:Nat→List Ef) (cl:List Eff) (ss:List Strp) (k p q i:Nat):(blkM E cl ss k p q i).length=i:=by simp[blkM]
theorem blkM_succ (E:Nat→List Ef) (cl:List Eff) (ss:List Strp) (k p q i:Nat):blkM E cl ss k p q (i+1)=blkM E cl ss k p q i++[cutT p q (trkM E cl ss k i)]:=by simp[blkM,List.range_succ]
theorem blk_loop (n:Nat) (hn:1200<n) (cl:List Eff) (ss:List Strp) (h:SOk cl ss) (E:Nat→List Ef) (hE:EfsOk E ss) (k p q:Nat) (hk:k≤256) (hpq:p≤q) (hqk:q≤k) (i1 i2:Int) (n9:Nat) (l10:List T) (n11:Nat) (l12:List T) (hl:ss.length≤8):∀ (j i m:Nat),i+j=ss.length→j<m →
  f22.l2 (n+150) m i1 i2 cl.length (effs cl) ss.length (strps ss) ss.length (stL (fun j=>if j<i then stAt E cl k q j else stAt E cl k p j) ss.length) n9 l10 n11 l12 (p:Int) (q:Int) (blkM E cl ss k p q i).length (trks (blkM E cl ss k p q i)) (ss.length:Int) (i:Int) =
   some (i1,i2,cl.length,effs cl,ss.length,strps ss,ss.length,stL (stAt E cl k q) ss.length,n9,l10,n11,l12,(p:Int),(q:Int),ss.length,trks (blkM E cl ss k p q ss.length)):=by
 intro j
 induction j with
 | zero =>
   intro i m hi hm
   obtain ⟨m,rfl⟩:∃ k,m=k+1:=⟨m - 1,by omega⟩
   obtain rfl:i=ss.length:=by omega
   rw[f22.l2,nlt_dec (by omega),blkM_length,stL_congr (g:=stAt E cl k q) (fun j hj=>by simp[hj])];rfl
 | succ j ih =>
   intro i m hi hm
   obtain ⟨m,rfl⟩:∃ k,m=k+1:=⟨m - 1,by omega⟩
   have hs:i<ss.length:=by omega
   obtain ⟨e1,e2,e3⟩:=hE i hs
   have hle:(sAt5 ss i).es.length=(E i).length:=by rw[← e1,effL_length]
   have hcl:∀ c∈cl,(0≤c.len∧c.len≤256)∧c.nums.length≤256:=fun c hc=>(h.k c hc).2
   have hc:=h.c
   have g1:=s_samples (n+149) cl ss.length (strps ss) (i:Int) q (by omega) (by omega) hcl (by omega)
   have hT:trackGo (i:Int) 0 cl (List.replicate q 0)=(trM cl k i).take q:=trM_take cl i hqk
   rw[hT] at g1
   have g1:f56 (n+150) cl.length (effs cl) ss.length (strps ss) (i:Int) (q:Int)=_:=g1
   have hTl:=trM_length cl k i
   have hcut:List.take (q - p) (List.drop p (fls .f32 ((trM cl k i).take q)))=fls .f32 (cut p q (trM cl k i)):=by
    rw[fls_drop,fls_take,List.take_of_length_le (by rw[List.length_drop,List.length_take];omega)];rfl
   have hcl2:(cut p q (trM cl k i)).length=q - p:=cut_length (by omega)
   have g2:f40 (n+150) (q - p) (fls .f32 (cut p q (trM cl k i)))=some (q - p,fls .f32 (cut p q (trM cl k i))):=by
    rw[f40,show Nat.ble (0+(q - p)) 2147483648=true by rw[Nat.ble_eq];omega,Nat.zero_add];rfl
   have hfit:Fits (E i) (stAt E cl k p i):=(chain_fit (E i) ((E i).map newRow) ((trM cl k i).take p) e2 (new_ok (E i)).fits (allW_take (trM_w32 cl k i) p)).2.1
   have g3:=s_runchain (n+47) (by omega) (E i) (by omega) e2 (stAt E cl k p i) hfit (cut p q (trM cl k i)) (allW_drop (allW_take (trM_w32 cl k i) q) p) (by omega)
   obtain ⟨c1,c2⟩:=chain_cut e2 (trM_w32 cl k i) hpq (show q≤(trM cl k i).length by omega)
   have c1:(chainGo (E i) (stAt E cl k p i) (cut p q (trM cl k i))).1=cut p q (chanM (E i) (i:Int) cl k):=c1
   have c2:(chainGo (E i) (stAt E cl k p i) (cut p q (trM cl k i))).2=stAt E cl k q i:=c2
   have f1:=(chan_facts e2 (i:Int) cl k).1
   have hcl3:(cut p q (chanM (E i) (i:Int) cl k)).length=q - p:=cut_length (by omega)
   rw[c1,c2,hcl2,hcl3,e1,← hle] at g3
   have g3:f57 (n+150) (sAt5 ss i).es.length (effs (sAt5 ss i).es) (stAt E cl k p i).length ((stAt E cl k p i).map rwF) (q - p) (fls .f32 (cut p q (trM cl k i)))=_:=g3
   have hnot:((if i<i then stAt E cl k q i else stAt E cl k p i):List (List Nat))=stAt E cl k p i:=if_neg (by omega)
   have w1:=nSt (f:=fun j=>if j<i then stAt E cl k q j else stAt E cl k p j) hs
   have w2:=lSt (f:=fun j=>if j<i then stAt E cl k q j else stAt E cl k p j) hs
   simp only[hnot] at w1 w2
   have w3:=stL_set (f:=fun j=>if j<i then stAt E cl k q j else stAt E cl k p j) (g:=fun j=>if j<i+1 then stAt E cl k q j else stAt E cl k p j) hs (by
    intro j hj
    by_cases hji:j=i
    ·subst hji;simp
    ·rw[if_neg hji]
     by_cases h1:j<i
     ·rw[if_pos h1,if_pos (by omega)]
     ·rw[if_neg h1,if_neg (by omega)])
   simp only[show i<i+1 by omega,if_true] at w3
   obtain ⟨q1,q2,g4⟩:=s_strip1 (n+149) (sAt5 ss i).es.length (effs (sAt5 ss i).es) (sAt5 ss i).tn (sAt5 ss i).pan (sAt5 ss i).mute (sAt5 ss i).solo (q - p) (fls .f32 (cut p q (chanM (E i) (i:Int) cl k)))
   have g4:f44 (n+150) (sAt5 ss i).es.length (effs (sAt5 ss i).es) (sAt5 ss i).tn (sAt5 ss i).pan (sAt5 ss i).mute (sAt5 ss i).solo (q - p) (fls .f32 (cut p q (chanM (E i) (i:Int) cl k)))=_:=g4
   have hp:=push_trk (blkM E cl ss k p q i) (cutT p q (trkM E cl ss k i))
   have hpl:=push_len (p:=blkM E cl ss k p q i) (z:=cutT p q (trkM E cl ss k i))
   rw[← blkM_succ] at hp hpl
   unfold trkC at hp
   unfold cutT trkM at hp
   simp only[hcl3] at hp
   have d1:decide ((0:Int)≤(p:Int)∧((p:Int)≤((q:Nat):Int)∧(((q:Nat):Int)≤((q:Nat):Int))))=true:=decide_eq_true (by omega)
   have d2:Nat.ble (i+1) (stL (fun j=>if j<i then stAt E cl k q j else stAt E cl k p j) ss.length).length=true:=by rw[Nat.ble_eq,stL_length];omega
   rw[f22.l2,lt_dec hs,in_dec hs,Int.toNat_natCast,okS5 hs,okSt hs]
   simp only[br_t,Bool.and_self,gd_t,nS5 hs,lS5 hs,tS5 hs,pS5 hs,mS5 hs,oS5 hs,g1,bd_s,d1,Int.toNat_natCast,hcut,g2,w1,w2,g3,d2,w3,g4,push_ok (show (blkM E cl ss k p q i).length<2147483648 by rw[blkM_length];omega)]
   rw[hp,hpl,wrap_succ (show i<9223372036854775807 by omega)]
   exact ih (i+1) m (by omega) (by omega)
theorem addN_zip (g p:Nat) (xs:List Nat):∀ (j i:Nat) (L:List Nat),i+j=xs.length→L.length=xs.length→addN g p xs j i L=L.take i++List.zipWith (fun l x=>fadd .f32 l (fmul .f32 (fmul .f32 x g) p)) (L.drop i) (xs.drop i)
 | 0,i,L,hi,hL=>by
   rw[addN,List.drop_eq_nil_of_le (by omega),List.take_of_length_le (by omega)];simp
 | j+1,i,L,hi,hL=>by
   have h1:i<L.length:=by omega
   have h2:i<xs.length:=by omega
   rw[addN,addN_zip g p xs j (i+1) _ (by omega) (by rw[List.length_set];exact hL),List.drop_eq_getElem_cons h1,List.drop_eq_getElem_cons h2,List.zipWith_cons_cons,List.drop_set_of_lt (by omega),List.take_succ,List.take_set,List.set_eq_of_length_le (by rw[List.length_take];omega),List.getElem?_set,if_pos rfl,if_pos h1]
   simp[List.getD,h1,h2]
theorem addN_all (g p:Nat) (xs L:List Nat) (hL:L.length=xs.length):addN g p xs xs.length 0 L=List.zipWith (fun l x=>fadd .f32 l (fmul .f32 (fmul .f32 x g) p)) L xs:=by
 rw[addN_zip g p xs xs.length 0 L (by omega) hL];simp
theorem cut_zip (f:Nat→Nat→Nat) (p q:Nat) (xs ys:List Nat):cut p q (List.zipWith f xs ys)=List.zipWith f (cut p q xs) (cut p q ys):=by
 unfold cut;rw[List.take_zipWith,List.drop_zipWith]
theorem addT_cut {k p q:Nat} (hpq:p≤q) (hqk:q≤k) {s:List Nat × List Nat} {t:Trk} (h1:s.1.length=k) (h2:s.2.length=k) (ht:t.xs.length=k) :
  addT (q - p) (cut p q s.1,cut p q s.2) (cutT p q t)=(cut p q (addT k s t).1,cut p q (addT k s t).2):=by
 have hc:(cut p q t.xs).length=q - p:=cut_length (by omega)
 unfold addT cutT
 simp only[hc,ht,Nat.min_self]
 have a1:=addN_all (gT t.ten) (panL t.pan) t.xs s.1 (by omega)
 have a2:=addN_all (gT t.ten) (panR t.pan) t.xs s.2 (by omega)
 have b1:=addN_all (gT t.ten) (panL t.pan) (cut p q t.xs) (cut p q s.1) (by rw[hc];exact cut_length (by omega))
 have b2:=addN_all (gT t.ten) (panR t.pan) (cut p q t.xs) (cut p q s.2) (by rw[hc];exact cut_length (by omega))
 rw[ht] at a1 a2
 rw[hc] at b1 b2
 rw[a1,a2,b1,b2,cut_zip,cut_zip]
theorem fold_cut {k p q:Nat} (hpq:p≤q) (hqk:q≤k):∀ (ts:List Trk) (s:List Nat × List Nat),(∀ t∈ts,t.xs.length=k)→s.1.length=k→s.2.length=k →
  (ts.map (cutT p q)).foldl (addT (q - p)) (cut p q s.1,cut p q s.2)=(cut p q (ts.foldl (addT k) s).1,cut p q (ts.foldl (addT k) s).2)
 | [],_,_,_,_=>rfl
 | t::ts,s,ht,h1,h2=>by
   rw[List.map_cons,List.foldl_cons,List.foldl_cons,addT_cut hpq hqk h1 h2 (ht t (by simp))]
   exact fold_cut hpq hqk ts (addT k s t) (fun u hu=>ht u (by simp[hu])) (addT_length.1.trans h1) (addT_length.2.trans h2)
theorem mix_cut {k p q:Nat} (hpq:p≤q) (hqk:q≤k) (ts:List Trk) (ht:∀ t∈ts,t.xs.length=k):mixM (q - p) (ts.map (cutT p q))=(cut p q (mixM k ts).1,cut p q (mixM k ts).2):=by
 have ha:anyS (ts.map (cutT p q))=anyS ts:=by unfold anyS;rw[List.any_map];rfl
 have hz:∀ k,q≤k→cut p q (List.replicate k 0)=List.replicate (q - p) 0:=by
  intro k hk
  unfold cut
  rw[List.take_replicate,List.drop_replicate,Nat.min_eq_left hk]
 unfold mixM
 rw[ha,List.filter_map]
 have e:=fold_cut hpq hqk (ts.filter (hf (anyS ts))) (zs_ k) (fun t h=>ht t (List.mem_filter.1 h).1) (by simp[zs_]) (by simp[zs_])
 rw[← e]
 unfold zs_
 rw[hz k hqk]
 rfl
theorem blk_eq (E:Nat→List Ef) (cl:List Eff) (ss:List Strp) (k p q i:Nat):blkM E cl ss k p q i=(trksM E cl ss k i).map (cutT p q):=by
 unfold blkM trksM
 rw[List.map_map];rfl
theorem blk_ok {cl:List Eff} {ss:List Strp} (h:SOk cl ss) {E:Nat→List Ef} (hE:EfsOk E ss) {k p q:Nat} (hk:k≤256):∀ t∈blkM E cl ss k p q ss.length,TrkOk t:=by
 intro t ht
 rw[blk_eq] at ht
 obtain ⟨u,hu,rfl⟩:=List.mem_map.1 ht
 obtain ⟨a,b,c⟩:=trksM_ok h hE hk u hu
 refine ⟨?_,b,c⟩
 show (cut p q u.xs).length≤256
 unfold cut
 rw[List.length_drop,List.length_take];omega
theorem trks_len {cl:List Eff} {ss:List Strp} {E:Nat→List Ef} (hE:EfsOk E ss) {k:Nat}:∀ t∈trksM E cl ss k ss.length,t.xs.length=k:=by
 intro t ht
 unfold trksM at ht
 obtain ⟨i,hi,rfl⟩:=List.mem_map.1 ht
 exact (chan_facts (hE i (List.mem_range.1 hi)).2.1 (i:Int) cl k).1
theorem blocks_loop (n:Nat) (hn:1400<n) (cl:List Eff) (ss:List Strp) (h:SOk cl ss) (E:Nat→List Ef) (hE:EfsOk E ss) (k z:Nat) (hk:k≤256) (hz:1≤z∧z≤256) (hl:ss.length≤8) (L R:List Nat) (hL:L=(mixM k (trksM E cl ss k ss.length)).1) (hR:R=(mixM k (trksM E cl ss k ss.length)).2):∀ (j p m:Nat),k≤p+j→p≤600→j<m →
  f22.l1 (n+150) m (k:Int) (z:Int) cl.length (effs cl) ss.length (strps ss) ss.length (stL (stAt E cl k p) ss.length) (L.take p).length (fls .f32 (L.take p)) (R.take p).length (fls .f32 (R.take p)) (p:Int)=some (k,fls .f32 L,k,fls .f32 R):=by
 obtain ⟨ml,mr⟩:=mixM_length k (trksM E cl ss k ss.length)
 rw[← hL] at ml
 rw[← hR] at mr
 intro j
 induction j with
 | zero =>
   intro p m hp hp2 hm
   obtain ⟨m,rfl⟩:∃ k,m=k+1:=⟨m - 1,by omega⟩
   rw[f22.l1,nlt_dec (by omega),List.take_of_length_le (by omega),List.take_of_length_le (by omega),ml,mr];rfl
 | succ j ih =>
   intro p m hp hp2 hm
   obtain ⟨m,rfl⟩:∃ k,m=k+1:=⟨m - 1,by omega⟩
   by_cases hpk:p<k
   case neg =>
    rw[f22.l1,nlt_dec (by omega),List.take_of_length_le (by omega),List.take_of_length_le (by omega),ml,mr];rfl
   obtain ⟨q,hq⟩:∃ q,q=min k (p+z):=⟨_,rfl⟩
   have hpq:p≤q:=by omega
   have hqk:q≤k:=by omega
   have w1:IntKind.i64.wrap ((p:Int)+(z:Int))=((p+z:Nat):Int):=by rw[wrap64] <;>omega
   have w2:IntKind.i64.wrap ((q:Int) - (p:Int))=((q - p:Nat):Int):=by rw[wrap64] <;>omega
   have g1:f55 (n+150) (k:Int) ((p+z:Nat):Int)=some (q:Int):=by
    rw[f55]
    by_cases hc:k<p+z
    ·rw[decide_eq_true (by omega),hq,Nat.min_eq_left (by omega)];rfl
    ·rw[decide_eq_false (by omega),hq,Nat.min_eq_right (by omega)];rfl
   have g2:=blk_loop n (by omega) cl ss h E hE k p q hk hpq hqk (k:Int) (z:Int) (L.take p).length (fls .f32 (L.take p)) (R.take p).length (fls .f32 (R.take p)) hl ss.length 0 (n+150) (by omega) (by omega)
   rw[stL_congr (f:=fun j=>if j<0 then stAt E cl k q j else stAt E cl k p j) (g:=stAt E cl k p) (fun j _=>by simp)] at g2
   have g2:f22.l2 (n+150) (n+150) (k:Int) (z:Int) cl.length (effs cl) ss.length (strps ss) ss.length (stL (stAt E cl k p) ss.length) (L.take p).length (fls .f32 (L.take p)) (R.take p).length (fls .f32 (R.take p)) (p:Int) (q:Int) 0 (reps 0 [(T.lst 0 []),(T.int .i64 (0:Int)),(T.flt .f32 0),(T.bool false),(T.bool false)]) (ss.length:Int) 0=_:=g2
   have g3:=(both_mix (n+108) (q - p) (by omega) (blkM E cl ss k p q ss.length) (by rw[blkM_length];omega) (blk_ok h hE hk) (by omega)).2
   rw[blkM_length,blk_eq,mix_cut hpq hqk _ (trks_len hE),← hL,← hR,← blk_eq] at g3
   have g3:f46 (n+150) ss.length (trks (blkM E cl ss k p q ss.length)) ((q - p:Nat):Int)=_:=g3
   have a1:(L.take p).length+(q - p)=(L.take q).length:=by rw[List.length_take,List.length_take];omega
   have a2:(R.take p).length+(q - p)=(R.take q).length:=by rw[List.length_take,List.length_take];omega
   have b1:fls .f32 (L.take p)++fls .f32 (cut p q L)=fls .f32 (L.take q):=by rw[← take_cut L hpq];simp[fls]
   have b2:fls .f32 (R.take p)++fls .f32 (cut p q R)=fls .f32 (R.take q):=by rw[← take_cut R hpq];simp[fls]
   have c1:Nat.ble (L.take q).length 2147483648=true:=by rw[Nat.ble_eq,List.length_take];omega
   have c2:Nat.ble (R.take q).length 2147483648=true:=by rw[Nat.ble_eq,List.length_take];omega
   rw[f22.l1,lt_dec hpk,w1]
   simp only[br_t,g1,bd_s,g2,w2,g3,a1,a2,b1,b2,c1,c2,gd_t,w1]
   have e:=ih (p+z) m (by omega) (by omega) (by omega)
   have hst:stL (stAt E cl k (p+z)) ss.length=stL (stAt E cl k q) ss.length:=stL_congr fun j _=>by
    unfold stAt
    by_cases hc:k<p+z
    ·have:q=k:=by omega
     rw[this,List.take_of_length_le (by rw[trM_length];omega),List.take_of_length_le (by rw[trM_length];omega)]
    ·have:q=p+z:=by omega
     rw[this]
   have hLq:L.take (p+z)=L.take q:=by
    by_cases hc:k<p+z
    ·rw[List.take_of_length_le (by omega),List.take_of_length_le (by omega)]
    ·rw[show q=p+z by omega]
   have hRq:R.take (p+z)=R.take q:=by
    by_cases hc:k<p+z
    ·rw[List.take_of_length_le (by omega),List.take_of_length_le (by omega)]
    ·rw[show q=p+z by omega]
   rw[hst,hLq,hRq] at e
   exact e
theorem both (n:Nat) (hn:1600<n) (cl:List Eff) (ss:List Strp) (hg:GoodS cl ss) (hf:Fin cl ss) (k z:Int) :
  ∃ (xs ys:List Nat) (b:Bool),xs.length≤256∧ys.length≤256∧f22 (n+200) cl.length (effs cl) ss.length (strps ss) k z=some (xs.length,fls .f32 xs,ys.length,fls .f32 ys,b)∧f10 (n+200) cl.length (effs cl) ss.length (strps ss) k z=some (xs.length,fls .f32 xs,ys.length,fls .f32 ys,b):=by
 have hl:=(fin_s hf).1
 have v1:=s_sessB (n+193) cl ss (by omega)
 have v1:f37 (n+199) cl.length (effs cl) ss.length (strps ss)=_:=v1
 have v2:=i_sessB (n+192) cl ss (by omega)
 have v2:f25 (n+198) cl.length (effs cl) ss.length (strps ss)=_:=v2
 have c1:=i_count (n+196) k
 have c1:f26 (n+198) k=_:=c1
 have c2:f43 (n+199) k=some (decide (0≤k∧k≤256)):=by rw[f43,s_in];rfl
 rw[f22,f10,v1,i_in]
 simp only[bd_s,c2,s_in]
 rw[f9,v2]
 simp only[bd_s,c1]
 by_cases h2:1≤z∧z≤256
 case neg =>
  rw[decide_eq_false h2]
  refine ⟨[],[],false,by simp,by simp,?_,rfl⟩
  cases sessB cl ss
  ·rfl
  ·by_cases h3:0≤k∧k≤256
   ·rw[decide_eq_true h3];rfl
   ·rw[decide_eq_false h3];rfl
 rw[decide_eq_true h2]
 by_cases h1:sessB cl ss=true
 case neg =>
  have h1:sessB cl ss=false:=by simpa using h1
  rw[h1];exact ⟨[],[],false,by simp,by simp,rfl,rfl⟩
 rw[h1]
 by_cases h3:0≤k∧k≤256
 case neg=>rw[decide_eq_false h3];exact ⟨[],[],false,by simp,by simp,rfl,rfl⟩
 rw[decide_eq_true h3]
 have hok:=sess_ok h1
 obtain ⟨k,rfl⟩:=Int.eq_ofNat_of_zero_le h3.1
 obtain ⟨z,rfl⟩:=Int.eq_ofNat_of_zero_le (show 0≤z by omega)
 have hk:k≤256:=by omega
 have hs8:ss.length≤8:=hok.n.2
 obtain ⟨E,hE⟩:=efs_all hok hg
 have a1:=i_tracks_loop (n+48) (by omega) cl ss hok E hE k hk hs8 ss.length 0 (n+198) (by omega) (by omega)
 have a1:f9.l0 (n+198) (n+198) (k:Int) cl.length (effs cl) ss.length (strps ss) 0 [] ss.length (strps ss) (ss.length:Int) 0=some ((k:Int),ss.length,trks (trksM E cl ss k ss.length)):=a1
 obtain ⟨m1,-⟩:=both_mix (n+156) k (by omega) (trksM E cl ss k ss.length) (by rw[trksM_length];omega) (trksM_ok hok hE hk) (by omega)
 rw[trksM_length] at m1
 have m1:f28 (n+198) ss.length (trks (trksM E cl ss k ss.length)) (k:Int)=_:=m1
 have a2:=news_loop (n+49) (by omega) cl ss E hE (k:Int) (z:Int) hs8 ss.length 0 (n+199) (by omega) (by omega)
 have a2:f22.l0 (n+199) (n+199) (k:Int) (z:Int) cl.length (effs cl) ss.length (strps ss) 0 (reps 0 [(T.lst 0 [])]) (ss.length:Int) 0=_:=a2
 have a3:=blocks_loop (n+49) (by omega) cl ss hok E hE k z hk (by omega) hs8 _ _ rfl rfl k 0 (n+199) (by omega) (by omega) (by omega)
 rw[stL_congr (f:=stAt E cl k 0) (g:=fun j=>(E j).map newRow) (fun j hj=>chain_nil _ _ (new_ok (E j)).fits)] at a3
 have a3:f22.l1 (n+199) (n+199) (k:Int) (z:Int) cl.length (effs cl) ss.length (strps ss) ss.length (stL (fun j=>(E j).map newRow) ss.length) 0 (reps 0 [(T.flt .f32 0)]) 0 (reps 0 [(T.flt .f32 0)]) 0=_:=a3
 obtain ⟨l1,l2⟩:=mixM_length k (trksM E cl ss k ss.length)
 refine ⟨(mixM k (trksM E cl ss k ss.length)).1,(mixM k (trksM E cl ss k ss.length)).2,true,by omega,by omega,?_,?_⟩
 ·simp only[Bool.not_true,br_f,a2,bd_s,a3,l1,l2]
 ·simp only[Bool.not_true,br_f,a1,bd_s,m1,l1,l2]
theorem exact_ (cl:List Eff) (ss:List Strp) (hg:GoodS cl ss) (hh:Huge cl ss) (k:Int) (gk:GoodI .i64 k) (z:Int) (gz:GoodI .i64 z):∃ n,f5 n cl.length (effs cl) ss.length (strps ss) k z=some true:=by
 refine ⟨1048577+1+2001,?_⟩
 generalize hN:1048577+1=N
 rw[show N+2001=(N+2000)+1 from rfl,f5]
 rcases sz_sess (N+1994) cl ss hh (by omega) with ⟨r,r0,e0,hf⟩ | e0
 case inr =>
  have e0:f14 (N+2000) cl.length (effs cl) ss.length (strps ss) 1048576=some (-1):=e0
  rw[e0];rfl
 have e0:f14 (N+2000) cl.length (effs cl) ss.length (strps ss) 1048576=some r:=e0
 have e1:=to_sess (N+1994) cl ss hf (by omega)
 have e1:f16 (N+2000) cl.length (effs cl) ss.length (strps ss)=_:=e1
 obtain ⟨xs,ys,b,hx,hy,e2,e3⟩:=both (N+1800) (by omega) cl ss hg hf k z
 have e2:f22 (N+2000) cl.length (effs cl) ss.length (strps ss) k z=_:=e2
 have e3:f10 (N+2000) cl.length (effs cl) ss.length (strps ss) k z=_:=e3
 have e4:=eq_sess (N+1993) cl ss hf (by omega)
 have e4:f18 (N+2000) cl.length (effs cl) ss.length (strps ss) cl.length (effs cl) ss.length (strps ss)=_:=e4
 have e5:=mk_sess (N+1996) cl ss hf (by omega)
 have e5:f19 (N+2000) cl.length (effs cl) ss.length (strps ss) 1=_:=e5
 have e6:=eq_self (N+1998) xs (by omega) (by omega)
 have e6:f17 (N+2000) xs.length (fls .f32 xs) xs.length (fls .f32 xs)=_:=e6
 have e6' :=eq_self (N+1998) ys (by omega) (by omega)
 have e6':f17 (N+2000) ys.length (fls .f32 ys) ys.length (fls .f32 ys)=_:=e6'
 have e7:=mark32 (N+1999) xs (by omega) 1 (by omega) (by omega) (by omega)
 have e7:f20 (N+2000) xs.length (fls .f32 xs) 1=_:=e7
 have e7' :=mark32 (N+1999) ys (by omega) (1+(xs.length:Int)) (by omega) (by omega) (by omega)
 have e7':f20 (N+2000) ys.length (fls .f32 ys) (1+(xs.length:Int))=_:=e7'
 have e8:=held32 (N+1999) xs.length (by omega) 1 (by omega) (by omega) (by omega)
 have e8:f21 (N+2000) xs.length (fls .f32 (marksF .f32 1 xs.length)) 1=_:=e8
 have e8' :=held32 (N+1999) ys.length (by omega) (1+(xs.length:Int)) (by omega) (by omega) (by omega)
 have e8':f21 (N+2000) ys.length (fls .f32 (marksF .f32 (1+(xs.length:Int)) ys.length)) (1+(xs.length:Int))=_:=e8'
 have b1:=mkE_nonneg cl
 have b2:=mkSt_nonneg ss
 simp only[e0,bd_s,decide_eq_false (show ¬ r<0 by omega),br_f,e1,e2,e3,e4,e5,e6,e7,e8,e6',e7',e8',Bool.not_true,beq_self_eq_true,decide_eq_false (show ¬ (1+mkE cl+mkSt ss<0) by omega),decide_eq_false (show ¬ ((1:Int)+(xs.length:Int)<0) by omega),decide_eq_false (show ¬ ((1:Int)+(xs.length:Int)+(ys.length:Int)<0) by omega),bne_self_eq_false]
theorem law5:∀ args,LawArgs E Tryz.f5.params.toList args→∃ N os,evalFn E N 5 args=some ⟨[⟨false,[.leaf],[.bool true]⟩],os⟩:=by
 intro args h0
 have hp:Tryz.f5.params.toList=[40,2,2]:=by kernel_rfl
 rw[hp] at h0
 obtain ⟨ts0,r0,rfl,hw0,h1⟩:=h0.cons_inv (d:=⟨true,2,48,[.sl .own [.leaf,.leaf,.sl .own [.leaf]],.sl .own [.sl .own [.leaf,.leaf,.sl .own [.leaf]],.leaf,.leaf,.leaf,.leaf]],[.lst 0 [],.lst 0 []],.st [(0,37),(1,38)]⟩) (by kernel_rfl)
 obtain ⟨cl0,ss0,rfl,gs0,gh0⟩:=session_inv (dS:=⟨true,2,48,[.sl .own [.leaf,.leaf,.sl .own [.leaf]],.sl .own [.sl .own [.leaf,.leaf,.sl .own [.leaf]],.leaf,.leaf,.leaf,.leaf]],[.lst 0 [],.lst 0 []],.st [(0,37),(1,38)]⟩) (by kernel_rfl) rfl (dCs:=⟨false,1,24,[.sl .own [.leaf,.leaf,.sl .own [.leaf]]],[.lst 0 []],.slc 118⟩) (by kernel_rfl) rfl (dC:=⟨true,3,40,[.leaf,.leaf,.sl .own [.leaf]],[.int .i64 0,.int .i64 0,.lst 0 []],.st [(0,2),(1,2),(2,30)]⟩) (by kernel_rfl) rfl (dSs:=⟨false,1,24,[.sl .own [.sl .own [.leaf,.leaf,.sl .own [.leaf]],.leaf,.leaf,.leaf,.leaf]],[.lst 0 []],.slc 122⟩) (by kernel_rfl) rfl (dSt:=⟨true,5,40,[.sl .own [.leaf,.leaf,.sl .own [.leaf]],.leaf,.leaf,.leaf,.leaf],[.lst 0 [],.int .i64 0,.flt .f32 0,.bool false,.bool false],.st [(0,120),(1,2),(2,55),(3,4),(4,4)]⟩) (by kernel_rfl) rfl (dB:=⟨false,1,1,[.leaf],[.bool false],.bool⟩) (by kernel_rfl) rfl (dEs:=⟨false,1,24,[.sl .own [.leaf,.leaf,.sl .own [.leaf]]],[.lst 0 []],.slc 190⟩) (by kernel_rfl) rfl (dE:=⟨true,3,40,[.leaf,.leaf,.sl .own [.leaf]],[.int .i64 0,.int .i64 0,.lst 0 []],.st [(0,2),(1,2),(2,30)]⟩) (by kernel_rfl) rfl (dI:=⟨false,1,8,[.leaf],[.int .i64 0],.int .i64⟩) (by kernel_rfl) rfl (dFs:=⟨false,1,24,[.sl .own [.leaf]],[.lst 0 []],.slc 55⟩) (by kernel_rfl) rfl (dF:=⟨false,1,4,[.leaf],[.flt .f32 0],.flt .f32⟩) (by kernel_rfl) rfl hw0
 obtain ⟨ts1,r1,rfl,hw1,h2⟩:=h1.cons_inv (d:=⟨false,1,8,[.leaf],[.int .i64 0],.int .i64⟩) (by kernel_rfl)
 obtain ⟨a1,rfl,g1⟩:=hw1.int_inv (k:=.i64) (d:=⟨false,1,8,[.leaf],[.int .i64 0],.int .i64⟩) (by kernel_rfl) rfl
 obtain ⟨ts2,r2,rfl,hw2,h3⟩:=h2.cons_inv (d:=⟨false,1,8,[.leaf],[.int .i64 0],.int .i64⟩) (by kernel_rfl)
 obtain ⟨a2,rfl,g2⟩:=hw2.int_inv (k:=.i64) (d:=⟨false,1,8,[.leaf],[.int .i64 0],.int .i64⟩) (by kernel_rfl) rfl
 obtain rfl:=h3.nil_inv
 obtain ⟨N,hN⟩:=exact_ cl0 ss0 gs0 gh0 a1 g1 a2 g2
 exact ⟨N,_,f5.ok N (cl0.length,effs cl0,ss0.length,strps ss0,a1,a2) true hN⟩
end Go.Proofs.YtokonabdnlckdaaGreat.D
end
section
namespace Go.Proofs.YtokonabdnlckdaaGreat.fnExactBounceBlocks
open Go Go.ChangeShapes Go.WideShapes Go.ChangeAt Go.RowKit Go.Desk
set_option linter.unusedVariables false
theorem own:ownKnob Tryz.prog.godebug=none:=by kernel_rfl
theorem laidOut:laidOutB Tryz.prog=true:=by kernel_rfl
set_option maxRecDepth 100000 in
theorem lifted (os:Os) (started:os.Started) (H:Type) (enc:TypeId × Value→H) :
  ReturnsInHanded {} Tryz.checked os 5 .any (Rows.fnExactBounceBlocksSpec.pre6 enc Tryz.prog Tryz.f5 Rows.fnExactBounceBlocksRow.domain false) (Rows.fnExactBounceBlocksSpec.post enc Tryz.prog Tryz.f5 false true false false):=by
 refine returnsInHanded_of_change (C:=Tryz.checked) own started (by kernel_rfl) Tryz.func5
  (ChangeSpec.witness6 (enc:=enc) (C:=Tryz.checked) false ⟨#[],#[.agg #[.slice none 0 0,.slice none 0 0],.int .i64 0,.int .i64 0],[]⟩ 8 (by kernel_rfl) (by kernel_rfl) (by kernel_rfl) (by kernel_rfl)) ?_
 intro W base args ds gs before hval hW hcnd _
 exact law_contract (c:=D.c5) Tryz.checked.mixed D.tysOk D.fnOk Tryz.func5 (by kernel_rfl) (by kernel_rfl) (by kernel_rfl) Tryz.underlying4 rfl
  (fun ds h=>by
    rw[show Tryz.f5.params.toList.length=3 by kernel_rfl] at h
    match ds,h with
    | [_,_,_],_=>rfl)
  laidOut (N:=8) (by kernel_rfl) (by kernel_rfl) D.law5 hval hW
theorem over:Rows.fnExactBounceBlocksRow.holds Tryz.pinned (OpenSpec.ofChange Rows.fnExactBounceBlocksSpec) :=
 OpenClaim.holds_of_wide 5 Tryz.f5 rfl rfl rfl rfl rfl rfl rfl ⟨rfl,rfl,rfl,rfl,rfl⟩ rfl rfl rfl rfl rfl (by kernel_rfl) Tryz.func5 (by kernel_rfl)
  (of_decide_eq_true (by kernel_rfl)) (by unfold Func.isWrapper;first | (rw[if_pos (by decide +kernel)];kernel_rfl) | (rw[if_neg (by decide +kernel)];exact ⟨rfl,rfl⟩))
  (fun os started H enc _=>lifted os started H enc)
theorem proved:Rows.FnExactBounceBlocksSaid:=over
#print axioms proved
end Go.Proofs.YtokonabdnlckdaaGreat.fnExactBounceBlocks
namespace Go.Proofs.YtokonabdnlckdaaGreat
theorem fnExactBounceBlocks_holds:Rows.FnExactBounceBlocksSaid:=fnExactBounceBlocks.proved
end Go.Proofs.YtokonabdnlckdaaGreat
end
