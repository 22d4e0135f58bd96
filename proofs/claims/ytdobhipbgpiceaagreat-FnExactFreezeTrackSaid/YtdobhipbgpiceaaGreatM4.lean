/- FnExactFreezeTrack holds: for every input the law returns true, and its arguments read as before. -/
import Derived.Test.YtdobhipbgpiceaaGreatChecked
import Derived.KernelRfl
import Derived.Shelf.SlicesE.Kit
import Derived.Shelf.RegionOpenPlain
import Derived.WalkKit
import Derived.Deep.LoopGhost
import Derived.Deep.RegionLaw
import Derived.Deep.MidRow
import Derived.Lib.Walk
import Derived.Sort.WalkB12
import Derived.Lib.SliceRun
import Derived.Lib.SlicesDelete
import Derived.Lib.SlicesMore
import Derived.Lib.SlicesCompact
import Derived.Test.YtdobhipbgpiceaaGreatRows
import Derived.ProofKit
import Derived.OpenShut
import Derived.ShutString
import Derived.ChangeOld
import Derived.Below
import Derived.SizedLaws
import Derived.Test.YtdobhipbgpiceaaGreatKernC
import Derived.Test.YtdobhipbgpiceaaGreatM4b
set_option linter.all false
set_option linter.unusedVariables false
section
namespace Go.Proofs.YtdobhipbgpiceaaGreat.D
open Go Go.Desk
set_option linter.unusedVariables false
def marksE:Int→List Eff→List Eff
 | _,[]=>[]
 | s,e::es=>⟨s,s+1,marksF .f32 (s+2) e.nums.length⟩::marksE (s+2+(e.nums.length:Int)) es
theorem marksE_length:∀ (es:List Eff) (s:Int),(marksE s es).length=es.length
 | [],_=>rfl
 | e::es,s=>by simp[marksE,marksE_length es]
theorem sz1_e (n:Nat) (e:Eff) (hx:e.nums.length≤9223372036854775807) (left:Int) (h0:0≤left) (h1:left≤1048576):f120 (n+2) e.kind e.len e.nums.length (fls .f32 e.nums) left=some (leftM left e.nums.length):=by
 rw[f120,sz32 n e.nums hx left h0 h1]
 simp only[bd_s,leftM_neg h0]
 by_cases h:(e.nums.length:Int)≤left
 ·rw[decide_eq_true h];rfl
 ·rw[decide_eq_false h];unfold leftM;rw[if_neg h];rfl
theorem szl_e (n:Nat) (es:List Eff) (hx:∀ e∈es,e.nums.length≤9223372036854775807) (hl:es.length≤1048576):∀ (j i m:Nat) (left:Int),0≤left→left≤1048576→i+j=es.length→j<m →
  f101.l0 (n+2) m es.length (effs es) left (i:Int)=some (if (nmE (es.drop i):Int)≤left then Sum.inr (left - (nmE (es.drop i):Int)) else Sum.inl (-1)):=by
 intro j
 induction j with
 | zero =>
   intro i m left h0 h1 hi hm
   obtain ⟨m,rfl⟩:∃ k,m=k+1:=⟨m - 1,by omega⟩
   rw[f101.l0,nlt_dec (by omega),List.drop_eq_nil_of_le (by omega)]
   simp[br,nmE,h0]
 | succ j ih =>
   intro i m left h0 h1 hi hm
   obtain ⟨m,rfl⟩:∃ k,m=k+1:=⟨m - 1,by omega⟩
   have h:i<es.length:=by omega
   have e1:=sz1_e n (eAt es i) (hx _ (eAt_mem h)) left h0 h1
   rw[f101.l0,lt_dec h,in_dec h,Int.toNat_natCast,okE h,eff_drop h,nmE]
   simp only[br_t,Bool.and_self,gd_t,kE h,gE h,nE h,lE h,e1,bd_s,leftM_neg h0,wrap_succ (show i<9223372036854775807 by omega)]
   by_cases hc:((eAt es i).nums.length:Int)≤left
   ·rw[decide_eq_true hc]
    simp only[Bool.not_true,br_f]
    have hL:leftM left (eAt es i).nums.length=left - ((eAt es i).nums.length:Int):=by unfold leftM;rw[if_pos hc]
    rw[hL,ih (i+1) m _ (by omega) (by omega) (by omega) (by omega)]
    congr 1
    by_cases h2:(nmE (es.drop (i+1)):Int)≤left - ((eAt es i).nums.length:Int)
    ·rw[if_pos h2,if_pos (by omega)];congr 1;omega
    ·rw[if_neg h2,if_neg (by omega)]
   ·rw[decide_eq_false hc,if_neg (by omega)];rfl
theorem szs_e (n:Nat) (es:List Eff) (hx:∀ e∈es,e.nums.length≤9223372036854775807) (hx2:es.length≤9223372036854775807) (left:Int) (h0:0≤left) (h1:left≤1048576) (hn:1048577<n) :
  f101 (n+3) es.length (effs es) left=some (leftM left (szE es)):=by
 rw[f101,show IntKind.i64.wrap (left - (es.length:Int))=left - (es.length:Int) by rw[wrap64] <;>omega,szE_nm]
 unfold leftM
 by_cases h:(es.length:Int)≤left
 ·have e:=szl_e n es hx (by omega) es.length 0 (n+2) (left - (es.length:Int)) (by omega) (by omega) (by omega) (by omega)
  have e:f101.l0 (n+2) (n+2) es.length (effs es) (left - (es.length:Int)) 0=_:=e
  rw[decide_eq_false (by omega),e,List.drop_zero]
  by_cases h2:(nmE es:Int)≤left - (es.length:Int)
  ·rw[if_pos h2,if_pos (by omega)]
   simp only[br_f,bd_s,sm_r]
   congr 1;omega
  ·rw[if_neg h2,if_neg (by omega)];rfl
 ·rw[decide_eq_true (by omega),if_neg (by omega)];rfl
theorem to1_e (n:Nat) (e:Eff) (hx:e.nums.length≤1048576) (hn:1048576<n):f129 (n+2) e.kind e.len e.nums.length (fls .f32 e.nums)=some (e.kind,e.len,e.nums.length,fls .f32 e.nums):=by
 rw[f129,copied n e.nums hx (by omega)];rfl
theorem tol_e (n:Nat) (es:List Eff) (hx:∀ e∈es,e.nums.length≤1048576) (hl:es.length≤1048576) (hn:1048576<n):∀ (j i m:Nat) (ys:List Eff),ys.length=es.length→i+j=es.length→j<m →
  f107.l0 (n+2) m es.length (effs es) es.length (effs (es.take i++ys.drop i)) (i:Int)=some (es.length,effs es):=by
 intro j
 induction j with
 | zero =>
   intro i m ys hy hi hm
   obtain ⟨m,rfl⟩:∃ k,m=k+1:=⟨m - 1,by omega⟩
   rw[f107.l0,nlt_dec (by omega),List.take_of_length_le (by omega),List.drop_eq_nil_of_le (by omega),List.append_nil];rfl
 | succ j ih =>
   intro i m ys hy hi hm
   obtain ⟨m,rfl⟩:∃ k,m=k+1:=⟨m - 1,by omega⟩
   have h:i<es.length:=by omega
   have hlen:(es.take i++ys.drop i).length=es.length:=by rw[List.length_append,List.length_take,List.length_drop];omega
   have h':i<(es.take i++ys.drop i).length:=by omega
   have hb:Nat.ble (i * 3+0+3) (effs (es.take i++ys.drop i)).length=true:=by rw[effs_length,hlen];exact le_ble (by omega)
   have hset:(es.take i++ys.drop i).set i (eAt es i)=es.take (i+1)++ys.drop (i+1):=by
    have:eAt es i=es[i]:=by simp[eAt,List.getD,h]
    rw[this];exact take_set_drop h hy
   rw[f107.l0,lt_dec h,in_dec h,Int.toNat_natCast,okE h]
   simp only[br_t,Bool.and_self,gd_t,kE h,gE h,nE h,lE h,to1_e n (eAt es i) (hx _ (eAt_mem h)) hn,bd_s,hb,eff_row h' (eAt es i),hset,wrap_succ (show i<9223372036854775807 by omega)]
   exact ih (i+1) m ys hy (by omega) (by omega)
theorem tos_e (n:Nat) (es:List Eff) (hx:∀ e∈es,e.nums.length≤1048576) (hl:es.length≤1048576) (hn:1048576<n):f107 (n+3) es.length (effs es)=some (es.length,effs es):=by
 have e:=tol_e n es hx hl hn es.length 0 (n+2) (List.replicate es.length ⟨0,0,[]⟩) (by simp) (by omega) (by omega)
 rw[List.take_zero,List.drop_zero,List.nil_append] at e
 have e:f107.l0 (n+2) (n+2) es.length (effs es) es.length (effs (List.replicate es.length ⟨0,0,[]⟩)) 0=_:=e
 rw[f107,decide_eq_true (show (0:Int)≤(es.length:Int)∧(es.length:Int)≤2147483648 by omega),reps_effs]
 simp only[gd_t,e,bd_s]
theorem eq1_e (n:Nat) (e:Eff) (hx:e.nums.length≤1048576) (hn:1048576<n):f138 (n+3) e.kind e.len e.nums.length (fls .f32 e.nums) e.kind e.len e.nums.length (fls .f32 e.nums)=some true:=by
 rw[f138,eq_self n e.nums (by omega) (by omega)]
 simp only[bne_self_eq_false,br_f,bd_s,Bool.not_true]
theorem eql_e (n:Nat) (es:List Eff) (hx:∀ e∈es,e.nums.length≤1048576) (hl:es.length≤1048576) (hn:1048576<n):∀ (j i m:Nat),i+j=es.length→j<m →
  f110.l0 (n+3) m es.length (effs es) es.length (effs es) (i:Int)=some (Sum.inr ()):=by
 intro j
 induction j with
 | zero =>
   intro i m hi hm
   obtain ⟨m,rfl⟩:∃ k,m=k+1:=⟨m - 1,by omega⟩
   rw[f110.l0,nlt_dec (by omega)];rfl
 | succ j ih =>
   intro i m hi hm
   obtain ⟨m,rfl⟩:∃ k,m=k+1:=⟨m - 1,by omega⟩
   have h:i<es.length:=by omega
   rw[f110.l0,lt_dec h,in_dec h,Int.toNat_natCast,okE h]
   simp only[br_t,Bool.and_self,gd_t,kE h,gE h,nE h,lE h,eq1_e n (eAt es i) (hx _ (eAt_mem h)) hn,bd_s,Bool.not_true,br_f,wrap_succ (show i<9223372036854775807 by omega)]
   exact ih (i+1) m (by omega) (by omega)
theorem eqs_e (n:Nat) (es:List Eff) (hx:∀ e∈es,e.nums.length≤1048576) (hl:es.length≤1048576) (hn:1048576<n):f110 (n+4) es.length (effs es) es.length (effs es)=some true:=by
 have e:=eql_e n es hx hl hn es.length 0 (n+3) (by omega) (by omega)
 have e:f110.l0 (n+3) (n+3) es.length (effs es) es.length (effs es) 0=_:=e
 rw[f110]
 simp only[bne_self_eq_false,br_f,e,bd_s,sm_r]
theorem mkl_e (n:Nat) (hn:1048576<n):∀ (zs p:List Eff) (s:Int) (m:Nat),(∀ e∈zs,e.nums.length≤1048576)→0≤s→s+2 * (zs.length:Int)+(nmE zs:Int)≤1099511627776→p.length+zs.length≤1048576→zs.length<m →
  f76.l0 (n+1) m (p++zs).length (effs (p++zs)) s (p.length:Int)=some ((p++zs).length,effs (p++marksE s zs),s+2 * (zs.length:Int)+(nmE zs:Int)):=by
 intro zs
 induction zs with
 | nil =>
   intro p s m _ _ _ _ hm
   obtain ⟨m,rfl⟩:∃ k,m=k+1:=⟨m - 1,by simp at hm;omega⟩
   rw[f76.l0,lt_end]
   simp[br,marksE,nmE]
 | cons z zs ih =>
   intro p s m hx h0 h1 hp hm
   obtain ⟨m,rfl⟩:∃ k,m=k+1:=⟨m - 1,by simp at hm;omega⟩
   simp only[nmE,List.length_cons] at h1
   have hz:=hx z (by simp)
   have h:p.length<(p++z::zs).length:=by simp
   have hat:eAt (p++z::zs) p.length=z:=by simp[eAt,List.getD]
   have hlen:∀ y,(p++y::zs).length=(p++z::zs).length:=fun y=>by simp
   have hb:∀ (y:Eff) (c:Nat),c<3→Nat.ble (p.length * 3+c+1) (effs (p++y::zs)).length=true:=fun y c hc=>by
    rw[effs_length];apply le_ble;simp;omega
   have st:∀ (y z':Eff) (c:Nat) (v:T),c<3→effC z'=(effC y).set c v→setN (effs (p++y::zs)) (p.length * 3+c) [v]=effs (p++z'::zs):=fun y z' c v hc hy=>by
    rw[setN_one]
    have:=rows_set effC_length ⟨5,0,[]⟩ (p++y::zs) p.length c v z' (by simp) hc (by simpa [List.getD] using hy)
    unfold effs
    rw[this];simp
   have w1:IntKind.i64.wrap (s+1)=s+1:=by rw[wrap64] <;>omega
   have w2:IntKind.i64.wrap (s+1+1)=s+2:=by rw[wrap64] <;>omega
   have e0:=st z ⟨s,z.len,z.nums⟩ 0 (.int .i64 s) (by decide) rfl
   have e1:=st ⟨s,z.len,z.nums⟩ ⟨s,s+1,z.nums⟩ 1 (.int .i64 (s+1)) (by decide) rfl
   have e2:=st ⟨s,s+1,z.nums⟩ ⟨s,s+1,marksF .f32 (s+2) z.nums.length⟩ 2 (.lst z.nums.length (fls .f32 (marksF .f32 (s+2) z.nums.length))) (by decide) (by simp[effC,marksF_length])
   have h2:p.length<(p++(⟨s,s+1,z.nums⟩:Eff)::zs).length:=by simp
   have hat2:eAt (p++(⟨s,s+1,z.nums⟩:Eff)::zs) p.length=⟨s,s+1,z.nums⟩:=by simp[eAt,List.getD]
   have g3:(effs (p++(⟨s,s+1,z.nums⟩:Eff)::zs))[p.length * 3+2]?=some (.lst z.nums.length (fls .f32 z.nums)):=by
    rw[eff_get (c:=2) (by decide) _ _ h2,hat2];rfl
   have g4:okAt [.lst] (effs (p++(⟨s,s+1,z.nums⟩:Eff)::zs)) (p.length * 3+2)=true:=by simp[okAt,g3,isCK]
   have g5:nAt (effs (p++(⟨s,s+1,z.nums⟩:Eff)::zs)) (p.length * 3+2)=z.nums.length:=by unfold nAt;rw[g3]
   have g6:lAt (effs (p++(⟨s,s+1,z.nums⟩:Eff)::zs)) (p.length * 3+2)=fls .f32 z.nums:=by unfold lAt;rw[g3]
   have e3:=mark32 n z.nums (by omega) (s+2) (by omega) (by omega) (by omega)
   have step:=ih (p++[⟨s,s+1,marksF .f32 (s+2) z.nums.length⟩]) (s+2+(z.nums.length:Int)) m (fun e he=>hx e (by simp[he])) (by omega) (by omega) (by simp at hp ⊢;omega) (by simp at hm;omega)
   rw[f76.l0,lt_mid,in_mid,toNat_len,wrap_len (z:=z) (show p.length<4611686018427387904 by simp at hp;omega)]
   simp only[br_t,gd_t,hb z 0 (by decide),e0,w1,hb _ 1 (by decide),e1,w2,g4,Bool.and_self,g5,g6,e3,bd_s,e2]
   have q1:(p++[(⟨s,s+1,marksF .f32 (s+2) z.nums.length⟩:Eff)])++zs=p++⟨s,s+1,marksF .f32 (s+2) z.nums.length⟩::zs:=by simp
   have q2:(p++[(⟨s,s+1,marksF .f32 (s+2) z.nums.length⟩:Eff)])++marksE (s+2+(z.nums.length:Int)) zs=p++marksE s (z::zs):=by simp[marksE]
   rw[q1,q2,hlen] at step
   have q3:(p++[(⟨s,s+1,marksF .f32 (s+2) z.nums.length⟩:Eff)]).length=(p++[z]).length:=by simp
   rw[q3] at step
   rw[step]
   congr 3
   simp only[nmE,List.length_cons];omega
theorem mks_e (n:Nat) (es:List Eff) (hx:∀ e∈es,e.nums.length≤1048576) (hl:es.length≤1048576) (s:Int) (h0:0≤s) (h1:s+2 * (es.length:Int)+(nmE es:Int)≤1099511627776) (hn:1048576<n) :
  f76 (n+2) es.length (effs es) s=some (s+2 * (es.length:Int)+(nmE es:Int),es.length,effs (marksE s es)):=by
 have e:=mkl_e n hn es [] s (n+1) hx h0 h1 (by simpa using hl) (by omega)
 have e:f76.l0 (n+1) (n+1) es.length (effs es) s 0=some (es.length,effs (marksE s es),s+2 * (es.length:Int)+(nmE es:Int)):=e
 rw[f76,e];rfl
theorem sz1_c (n:Nat) (e:Eff) (hx:e.nums.length≤9223372036854775807) (left:Int) (h0:0≤left) (h1:left≤1048576):f60 (n+2) e.kind e.len e.nums.length (fls .f32 e.nums) left=some (leftM left e.nums.length):=by
 rw[f60,sz32 n e.nums hx left h0 h1]
 simp only[bd_s,leftM_neg h0]
 by_cases h:(e.nums.length:Int)≤left
 ·rw[decide_eq_true h];rfl
 ·rw[decide_eq_false h];unfold leftM;rw[if_neg h];rfl
theorem szl_c (n:Nat) (es:List Eff) (hx:∀ e∈es,e.nums.length≤9223372036854775807) (hl:es.length≤1048576):∀ (j i m:Nat) (left:Int),0≤left→left≤1048576→i+j=es.length→j<m →
  f25.l0 (n+2) m es.length (effs es) left (i:Int)=some (if (nmE (es.drop i):Int)≤left then Sum.inr (left - (nmE (es.drop i):Int)) else Sum.inl (-1)):=by
 intro j
 induction j with
 | zero =>
   intro i m left h0 h1 hi hm
   obtain ⟨m,rfl⟩:∃ k,m=k+1:=⟨m - 1,by omega⟩
   rw[f25.l0,nlt_dec (by omega),List.drop_eq_nil_of_le (by omega)]
   simp[br,nmE,h0]
 | succ j ih =>
   intro i m left h0 h1 hi hm
   obtain ⟨m,rfl⟩:∃ k,m=k+1:=⟨m - 1,by omega⟩
   have h:i<es.length:=by omega
   have e1:=sz1_c n (eAt es i) (hx _ (eAt_mem h)) left h0 h1
   rw[f25.l0,lt_dec h,in_dec h,Int.toNat_natCast,okE h,eff_drop h,nmE]
   simp only[br_t,Bool.and_self,gd_t,kE h,gE h,nE h,lE h,e1,bd_s,leftM_neg h0,wrap_succ (show i<9223372036854775807 by omega)]
   by_cases hc:((eAt es i).nums.length:Int)≤left
   ·rw[decide_eq_true hc]
    simp only[Bool.not_true,br_f]
    have hL:leftM left (eAt es i).nums.length=left - ((eAt es i).nums.length:Int):=by unfold leftM;rw[if_pos hc]
    rw[hL,ih (i+1) m _ (by omega) (by omega) (by omega) (by omega)]
    congr 1
    by_cases h2:(nmE (es.drop (i+1)):Int)≤left - ((eAt es i).nums.length:Int)
    ·rw[if_pos h2,if_pos (by omega)];congr 1;omega
    ·rw[if_neg h2,if_neg (by omega)]
   ·rw[decide_eq_false hc,if_neg (by omega)];rfl
theorem szs_c (n:Nat) (es:List Eff) (hx:∀ e∈es,e.nums.length≤9223372036854775807) (hx2:es.length≤9223372036854775807) (left:Int) (h0:0≤left) (h1:left≤1048576) (hn:1048577<n) :
  f25 (n+3) es.length (effs es) left=some (leftM left (szE es)):=by
 rw[f25,show IntKind.i64.wrap (left - (es.length:Int))=left - (es.length:Int) by rw[wrap64] <;>omega,szE_nm]
 unfold leftM
 by_cases h:(es.length:Int)≤left
 ·have e:=szl_c n es hx (by omega) es.length 0 (n+2) (left - (es.length:Int)) (by omega) (by omega) (by omega) (by omega)
  have e:f25.l0 (n+2) (n+2) es.length (effs es) (left - (es.length:Int)) 0=_:=e
  rw[decide_eq_false (by omega),e,List.drop_zero]
  by_cases h2:(nmE es:Int)≤left - (es.length:Int)
  ·rw[if_pos h2,if_pos (by omega)]
   simp only[br_f,bd_s,sm_r]
   congr 1;omega
  ·rw[if_neg h2,if_neg (by omega)];rfl
 ·rw[decide_eq_true (by omega),if_neg (by omega)];rfl
theorem to1_c (n:Nat) (e:Eff) (hx:e.nums.length≤1048576) (hn:1048576<n):f69 (n+2) e.kind e.len e.nums.length (fls .f32 e.nums)=some (e.kind,e.len,e.nums.length,fls .f32 e.nums):=by
 rw[f69,copied n e.nums hx (by omega)];rfl
theorem tol_c (n:Nat) (es:List Eff) (hx:∀ e∈es,e.nums.length≤1048576) (hl:es.length≤1048576) (hn:1048576<n):∀ (j i m:Nat) (ys:List Eff),ys.length=es.length→i+j=es.length→j<m →
  f31.l0 (n+2) m es.length (effs es) es.length (effs (es.take i++ys.drop i)) (i:Int)=some (es.length,effs es):=by
 intro j
 induction j with
 | zero =>
   intro i m ys hy hi hm
   obtain ⟨m,rfl⟩:∃ k,m=k+1:=⟨m - 1,by omega⟩
   rw[f31.l0,nlt_dec (by omega),List.take_of_length_le (by omega),List.drop_eq_nil_of_le (by omega),List.append_nil];rfl
 | succ j ih =>
   intro i m ys hy hi hm
   obtain ⟨m,rfl⟩:∃ k,m=k+1:=⟨m - 1,by omega⟩
   have h:i<es.length:=by omega
   have hlen:(es.take i++ys.drop i).length=es.length:=by rw[List.length_append,List.length_take,List.length_drop];omega
   have h':i<(es.take i++ys.drop i).length:=by omega
   have hb:Nat.ble (i * 3+0+3) (effs (es.take i++ys.drop i)).length=true:=by rw[effs_length,hlen];exact le_ble (by omega)
   have hset:(es.take i++ys.drop i).set i (eAt es i)=es.take (i+1)++ys.drop (i+1):=by
    have:eAt es i=es[i]:=by simp[eAt,List.getD,h]
    rw[this];exact take_set_drop h hy
   rw[f31.l0,lt_dec h,in_dec h,Int.toNat_natCast,okE h]
   simp only[br_t,Bool.and_self,gd_t,kE h,gE h,nE h,lE h,to1_c n (eAt es i) (hx _ (eAt_mem h)) hn,bd_s,hb,eff_row h' (eAt es i),hset,wrap_succ (show i<9223372036854775807 by omega)]
   exact ih (i+1) m ys hy (by omega) (by omega)
theorem tos_c (n:Nat) (es:List Eff) (hx:∀ e∈es,e.nums.length≤1048576) (hl:es.length≤1048576) (hn:1048576<n):f31 (n+3) es.length (effs es)=some (es.length,effs es):=by
 have e:=tol_c n es hx hl hn es.length 0 (n+2) (List.replicate es.length ⟨0,0,[]⟩) (by simp) (by omega) (by omega)
 rw[List.take_zero,List.drop_zero,List.nil_append] at e
 have e:f31.l0 (n+2) (n+2) es.length (effs es) es.length (effs (List.replicate es.length ⟨0,0,[]⟩)) 0=_:=e
 rw[f31,decide_eq_true (show (0:Int)≤(es.length:Int)∧(es.length:Int)≤2147483648 by omega),reps_effs]
 simp only[gd_t,e,bd_s]
theorem eq1_c (n:Nat) (e:Eff) (hx:e.nums.length≤1048576) (hn:1048576<n):f74 (n+3) e.kind e.len e.nums.length (fls .f32 e.nums) e.kind e.len e.nums.length (fls .f32 e.nums)=some true:=by
 rw[f74,eq_self n e.nums (by omega) (by omega)]
 simp only[bne_self_eq_false,br_f,bd_s,Bool.not_true]
theorem eql_c (n:Nat) (es:List Eff) (hx:∀ e∈es,e.nums.length≤1048576) (hl:es.length≤1048576) (hn:1048576<n):∀ (j i m:Nat),i+j=es.length→j<m →
  f36.l0 (n+3) m es.length (effs es) es.length (effs es) (i:Int)=some (Sum.inr ()):=by
 intro j
 induction j with
 | zero =>
   intro i m hi hm
   obtain ⟨m,rfl⟩:∃ k,m=k+1:=⟨m - 1,by omega⟩
   rw[f36.l0,nlt_dec (by omega)];rfl
 | succ j ih =>
   intro i m hi hm
   obtain ⟨m,rfl⟩:∃ k,m=k+1:=⟨m - 1,by omega⟩
   have h:i<es.length:=by omega
   rw[f36.l0,lt_dec h,in_dec h,Int.toNat_natCast,okE h]
   simp only[br_t,Bool.and_self,gd_t,kE h,gE h,nE h,lE h,eq1_c n (eAt es i) (hx _ (eAt_mem h)) hn,bd_s,Bool.not_true,br_f,wrap_succ (show i<9223372036854775807 by omega)]
   exact ih (i+1) m (by omega) (by omega)
theorem eqs_c (n:Nat) (es:List Eff) (hx:∀ e∈es,e.nums.length≤1048576) (hl:es.length≤1048576) (hn:1048576<n):f36 (n+4) es.length (effs es) es.length (effs es)=some true:=by
 have e:=eql_c n es hx hl hn es.length 0 (n+3) (by omega) (by omega)
 have e:f36.l0 (n+3) (n+3) es.length (effs es) es.length (effs es) 0=_:=e
 rw[f36]
 simp only[bne_self_eq_false,br_f,e,bd_s,sm_r]
theorem mkl_c (n:Nat) (hn:1048576<n):∀ (zs p:List Eff) (s:Int) (m:Nat),(∀ e∈zs,e.nums.length≤1048576)→0≤s→s+2 * (zs.length:Int)+(nmE zs:Int)≤1099511627776→p.length+zs.length≤1048576→zs.length<m →
  f38.l0 (n+1) m (p++zs).length (effs (p++zs)) s (p.length:Int)=some ((p++zs).length,effs (p++marksE s zs),s+2 * (zs.length:Int)+(nmE zs:Int)):=by
 intro zs
 induction zs with
 | nil =>
   intro p s m _ _ _ _ hm
   obtain ⟨m,rfl⟩:∃ k,m=k+1:=⟨m - 1,by simp at hm;omega⟩
   rw[f38.l0,lt_end]
   simp[br,marksE,nmE]
 | cons z zs ih =>
   intro p s m hx h0 h1 hp hm
   obtain ⟨m,rfl⟩:∃ k,m=k+1:=⟨m - 1,by simp at hm;omega⟩
   simp only[nmE,List.length_cons] at h1
   have hz:=hx z (by simp)
   have h:p.length<(p++z::zs).length:=by simp
   have hat:eAt (p++z::zs) p.length=z:=by simp[eAt,List.getD]
   have hlen:∀ y,(p++y::zs).length=(p++z::zs).length:=fun y=>by simp
   have hb:∀ (y:Eff) (c:Nat),c<3→Nat.ble (p.length * 3+c+1) (effs (p++y::zs)).length=true:=fun y c hc=>by
    rw[effs_length];apply le_ble;simp;omega
   have st:∀ (y z':Eff) (c:Nat) (v:T),c<3→effC z'=(effC y).set c v→setN (effs (p++y::zs)) (p.length * 3+c) [v]=effs (p++z'::zs):=fun y z' c v hc hy=>by
    rw[setN_one]
    have:=rows_set effC_length ⟨5,0,[]⟩ (p++y::zs) p.length c v z' (by simp) hc (by simpa [List.getD] using hy)
    unfold effs
    rw[this];simp
   have w1:IntKind.i64.wrap (s+1)=s+1:=by rw[wrap64] <;>omega
   have w2:IntKind.i64.wrap (s+1+1)=s+2:=by rw[wrap64] <;>omega
   have e0:=st z ⟨s,z.len,z.nums⟩ 0 (.int .i64 s) (by decide) rfl
   have e1:=st ⟨s,z.len,z.nums⟩ ⟨s,s+1,z.nums⟩ 1 (.int .i64 (s+1)) (by decide) rfl
   have e2:=st ⟨s,s+1,z.nums⟩ ⟨s,s+1,marksF .f32 (s+2) z.nums.length⟩ 2 (.lst z.nums.length (fls .f32 (marksF .f32 (s+2) z.nums.length))) (by decide) (by simp[effC,marksF_length])
   have h2:p.length<(p++(⟨s,s+1,z.nums⟩:Eff)::zs).length:=by simp
   have hat2:eAt (p++(⟨s,s+1,z.nums⟩:Eff)::zs) p.length=⟨s,s+1,z.nums⟩:=by simp[eAt,List.getD]
   have g3:(effs (p++(⟨s,s+1,z.nums⟩:Eff)::zs))[p.length * 3+2]?=some (.lst z.nums.length (fls .f32 z.nums)):=by
    rw[eff_get (c:=2) (by decide) _ _ h2,hat2];rfl
   have g4:okAt [.lst] (effs (p++(⟨s,s+1,z.nums⟩:Eff)::zs)) (p.length * 3+2)=true:=by simp[okAt,g3,isCK]
   have g5:nAt (effs (p++(⟨s,s+1,z.nums⟩:Eff)::zs)) (p.length * 3+2)=z.nums.length:=by unfold nAt;rw[g3]
   have g6:lAt (effs (p++(⟨s,s+1,z.nums⟩:Eff)::zs)) (p.length * 3+2)=fls .f32 z.nums:=by unfold lAt;rw[g3]
   have e3:=mark32 n z.nums (by omega) (s+2) (by omega) (by omega) (by omega)
   have step:=ih (p++[⟨s,s+1,marksF .f32 (s+2) z.nums.length⟩]) (s+2+(z.nums.length:Int)) m (fun e he=>hx e (by simp[he])) (by omega) (by omega) (by simp at hp ⊢;omega) (by simp at hm;omega)
   rw[f38.l0,lt_mid,in_mid,toNat_len,wrap_len (z:=z) (show p.length<4611686018427387904 by simp at hp;omega)]
   simp only[br_t,gd_t,hb z 0 (by decide),e0,w1,hb _ 1 (by decide),e1,w2,g4,Bool.and_self,g5,g6,e3,bd_s,e2]
   have q1:(p++[(⟨s,s+1,marksF .f32 (s+2) z.nums.length⟩:Eff)])++zs=p++⟨s,s+1,marksF .f32 (s+2) z.nums.length⟩::zs:=by simp
   have q2:(p++[(⟨s,s+1,marksF .f32 (s+2) z.nums.length⟩:Eff)])++marksE (s+2+(z.nums.length:Int)) zs=p++marksE s (z::zs):=by simp[marksE]
   rw[q1,q2,hlen] at step
   have q3:(p++[(⟨s,s+1,marksF .f32 (s+2) z.nums.length⟩:Eff)]).length=(p++[z]).length:=by simp
   rw[q3] at step
   rw[step]
   congr 3
   simp only[nmE,List.length_cons];omega
theorem mks_c (n:Nat) (es:List Eff) (hx:∀ e∈es,e.nums.length≤1048576) (hl:es.length≤1048576) (s:Int) (h0:0≤s) (h1:s+2 * (es.length:Int)+(nmE es:Int)≤1099511627776) (hn:1048576<n) :
  f38 (n+2) es.length (effs es) s=some (s+2 * (es.length:Int)+(nmE es:Int),es.length,effs (marksE s es)):=by
 have e:=mkl_c n hn es [] s (n+1) hx h0 h1 (by simpa using hl) (by omega)
 have e:f38.l0 (n+1) (n+1) es.length (effs es) s 0=some (es.length,effs (marksE s es),s+2 * (es.length:Int)+(nmE es:Int)):=e
 rw[f38,e];rfl
structure Fin (cl:List Eff) (ss:List Strp):Prop where
 c:szE cl≤1048576
 s:szSt ss≤1048576
structure Huge (cl:List Eff) (ss:List Strp):Prop where
 c:cl.length≤9223372036854775807
 cn:∀ e∈cl,e.nums.length≤9223372036854775807
 s:ss.length≤9223372036854775807
 se:∀ s∈ss,s.es.length≤9223372036854775807∧∀ e∈s.es,e.nums.length≤9223372036854775807
theorem sz1_st (n:Nat) (s:Strp) (hx:s.es.length≤9223372036854775807∧∀ e∈s.es,e.nums.length≤9223372036854775807) (left:Int) (h0:0≤left) (h1:left≤1048576) (hn:1048577<n) :
  f61 (n+4) s.es.length (effs s.es) s.tn s.pan s.mute s.solo left=some (leftM left (szE s.es)):=by
 rw[f61,szs_e n s.es hx.2 hx.1 left h0 h1 hn]
 simp only[bd_s,leftM_neg h0]
 by_cases h:(szE s.es:Int)≤left
 ·rw[decide_eq_true h];rfl
 ·rw[decide_eq_false h];unfold leftM;rw[if_neg h];rfl
theorem szl_st (n:Nat) (hn:1048577<n) (ss:List Strp) (hx:∀ s∈ss,s.es.length≤9223372036854775807∧∀ e∈s.es,e.nums.length≤9223372036854775807) (hl:ss.length≤1048576):∀ (j i m:Nat) (left:Int),0≤left→left≤1048576→i+j=ss.length→j<m →
  f26.l0 (n+4) m ss.length (strps ss) left (i:Int)=some (if (nmSt (ss.drop i):Int)≤left then Sum.inr (left - (nmSt (ss.drop i):Int)) else Sum.inl (-1)):=by
 intro j
 induction j with
 | zero =>
   intro i m left h0 h1 hi hm
   obtain ⟨m,rfl⟩:∃ k,m=k+1:=⟨m - 1,by omega⟩
   rw[f26.l0,nlt_dec (by omega),List.drop_eq_nil_of_le (by omega)]
   simp[br,nmSt,h0]
 | succ j ih =>
   intro i m left h0 h1 hi hm
   obtain ⟨m,rfl⟩:∃ k,m=k+1:=⟨m - 1,by omega⟩
   have h:i<ss.length:=by omega
   have e1:=sz1_st n (sAt5 ss i) (hx _ (sAt5_mem h)) left h0 h1 hn
   rw[f26.l0,lt_dec h,in_dec h,Int.toNat_natCast,okS5 h,st_drop h,nmSt]
   simp only[br_t,Bool.and_self,gd_t,nS5 h,lS5 h,tS5 h,pS5 h,mS5 h,oS5 h,e1,bd_s,leftM_neg h0,wrap_succ (show i<9223372036854775807 by omega)]
   by_cases hc:(szE (sAt5 ss i).es:Int)≤left
   ·rw[decide_eq_true hc]
    simp only[Bool.not_true,br_f]
    have hL:leftM left (szE (sAt5 ss i).es)=left - (szE (sAt5 ss i).es:Int):=by unfold leftM;rw[if_pos hc]
    rw[hL,ih (i+1) m _ (by omega) (by omega) (by omega) (by omega)]
    congr 1
    by_cases h2:(nmSt (ss.drop (i+1)):Int)≤left - (szE (sAt5 ss i).es:Int)
    ·rw[if_pos h2,if_pos (by omega)];congr 1;omega
    ·rw[if_neg h2,if_neg (by omega)]
   ·rw[decide_eq_false hc,if_neg (by omega)];rfl
theorem szs_st (n:Nat) (ss:List Strp) (hx:∀ s∈ss,s.es.length≤9223372036854775807∧∀ e∈s.es,e.nums.length≤9223372036854775807) (hx2:ss.length≤9223372036854775807) (left:Int) (h0:0≤left) (h1:left≤1048576) (hn:1048577<n) :
  f26 (n+5) ss.length (strps ss) left=some (leftM left (szSt ss)):=by
 rw[f26,show IntKind.i64.wrap (left - (ss.length:Int))=left - (ss.length:Int) by rw[wrap64] <;>omega,szSt_nm]
 unfold leftM
 by_cases h:(ss.length:Int)≤left
 ·have e:=szl_st n hn ss hx (by omega) ss.length 0 (n+4) (left - (ss.length:Int)) (by omega) (by omega) (by omega) (by omega)
  have e:f26.l0 (n+4) (n+4) ss.length (strps ss) (left - (ss.length:Int)) 0=_:=e
  rw[decide_eq_false (by omega),e,List.drop_zero]
  by_cases h2:(nmSt ss:Int)≤left - (ss.length:Int)
  ·rw[if_pos h2,if_pos (by omega)]
   simp only[br_f,bd_s,sm_r]
   congr 1;omega
  ·rw[if_neg h2,if_neg (by omega)];rfl
 ·rw[decide_eq_true (by omega),if_neg (by omega)];rfl
theorem sz_sess (n:Nat) (cl:List Eff) (ss:List Strp) (h:Huge cl ss) (hn:1048577<n) :
  (∃ r:Int,0≤r∧f6 (n+6) cl.length (effs cl) ss.length (strps ss) 1048576=some r∧Fin cl ss)∨f6 (n+6) cl.length (effs cl) ss.length (strps ss) 1048576=some (-1):=by
 rw[f6,szs_c (n+2) cl h.cn h.c 1048576 (by omega) (by omega) (by omega)]
 simp only[bd_s,leftM_neg (show (0:Int)≤1048576 by omega)]
 by_cases h1:(szE cl:Int)≤1048576
 ·rw[decide_eq_true h1]
  have hL:leftM 1048576 (szE cl)=1048576 - (szE cl:Int):=by unfold leftM;rw[if_pos h1]
  simp only[Bool.not_true,br_f,hL,szs_st n ss h.se h.s (1048576 - (szE cl:Int)) (by omega) (by omega) hn,bd_s,leftM_neg (show (0:Int)≤1048576 - (szE cl:Int) by omega)]
  by_cases h2:(szSt ss:Int)≤1048576 - (szE cl:Int)
  ·rw[decide_eq_true h2]
   refine .inl ⟨1048576 - (szE cl:Int) - (szSt ss:Int),by omega,?_,⟨by omega,by omega⟩⟩
   unfold leftM;rw[if_pos h2];rfl
  ·rw[decide_eq_false h2];exact .inr rfl
 ·rw[decide_eq_false h1];exact .inr rfl
theorem fin_c {cl:List Eff} {ss:List Strp} (h:Fin cl ss):cl.length≤1048576∧∀ e∈cl,e.nums.length≤1048576 :=
 ⟨Nat.le_trans (szE_len cl) h.c,fun e he=>Nat.le_trans (szE_num cl e he) h.c⟩
theorem fin_s {cl:List Eff} {ss:List Strp} (h:Fin cl ss):ss.length≤1048576∧∀ s∈ss,s.es.length≤1048576∧∀ e∈s.es,e.nums.length≤1048576 :=
 ⟨Nat.le_trans (szSt_len ss) h.s,fun s hs=>by
   have h1:=Nat.le_trans (szSt_es ss s hs) h.s
   exact ⟨Nat.le_trans (szE_len _) h1,fun e he=>Nat.le_trans (szE_num _ e he) h1⟩⟩
theorem to1_st (n:Nat) (s:Strp) (hx:s.es.length≤1048576∧∀ e∈s.es,e.nums.length≤1048576) (hn:1048576<n):f70 (n+4) s.es.length (effs s.es) s.tn s.pan s.mute s.solo=some (s.es.length,effs s.es,s.tn,s.pan,s.mute,s.solo):=by
 rw[f70,tos_e n s.es hx.2 hx.1 hn];rfl
theorem tol_st (n:Nat) (ss:List Strp) (hx:∀ s∈ss,s.es.length≤1048576∧∀ e∈s.es,e.nums.length≤1048576) (hl:ss.length≤1048576) (hn:1048576<n):∀ (j i m:Nat) (ys:List Strp),ys.length=ss.length→i+j=ss.length→j<m →
  f32.l0 (n+4) m ss.length (strps ss) ss.length (strps (ss.take i++ys.drop i)) (i:Int)=some (ss.length,strps ss):=by
 intro j
 induction j with
 | zero =>
   intro i m ys hy hi hm
   obtain ⟨m,rfl⟩:∃ k,m=k+1:=⟨m - 1,by omega⟩
   rw[f32.l0,nlt_dec (by omega),List.take_of_length_le (by omega),List.drop_eq_nil_of_le (by omega),List.append_nil];rfl
 | succ j ih =>
   intro i m ys hy hi hm
   obtain ⟨m,rfl⟩:∃ k,m=k+1:=⟨m - 1,by omega⟩
   have h:i<ss.length:=by omega
   have hlen:(ss.take i++ys.drop i).length=ss.length:=by rw[List.length_append,List.length_take,List.length_drop];omega
   have h':i<(ss.take i++ys.drop i).length:=by omega
   have hb:Nat.ble (i * 5+0+5) (strps (ss.take i++ys.drop i)).length=true:=by rw[strps_length,hlen];exact le_ble (by omega)
   have hset:(ss.take i++ys.drop i).set i (sAt5 ss i)=ss.take (i+1)++ys.drop (i+1):=by
    have:sAt5 ss i=ss[i]:=by simp[sAt5,List.getD,h]
    rw[this];exact take_set_drop h hy
   rw[f32.l0,lt_dec h,in_dec h,Int.toNat_natCast,okS5 h]
   simp only[br_t,Bool.and_self,gd_t,nS5 h,lS5 h,tS5 h,pS5 h,mS5 h,oS5 h,to1_st n (sAt5 ss i) (hx _ (sAt5_mem h)) hn,bd_s,hb,st_row h' (sAt5 ss i),hset,wrap_succ (show i<9223372036854775807 by omega)]
   exact ih (i+1) m ys hy (by omega) (by omega)
theorem tos_st (n:Nat) (ss:List Strp) (hx:∀ s∈ss,s.es.length≤1048576∧∀ e∈s.es,e.nums.length≤1048576) (hl:ss.length≤1048576) (hn:1048576<n):f32 (n+5) ss.length (strps ss)=some (ss.length,strps ss):=by
 have e:=tol_st n ss hx hl hn ss.length 0 (n+4) (List.replicate ss.length ⟨[],0,0,false,false⟩) (by simp) (by omega) (by omega)
 rw[List.take_zero,List.drop_zero,List.nil_append] at e
 have e:f32.l0 (n+4) (n+4) ss.length (strps ss) ss.length (strps (List.replicate ss.length ⟨[],0,0,false,false⟩)) 0=_:=e
 rw[f32,decide_eq_true (show (0:Int)≤(ss.length:Int)∧(ss.length:Int)≤2147483648 by omega),reps_strps]
 simp only[gd_t,e,bd_s]
theorem to_sess (n:Nat) (cl:List Eff) (ss:List Strp) (h:Fin cl ss) (hn:1048576<n):f8 (n+6) cl.length (effs cl) ss.length (strps ss)=some (cl.length,effs cl,ss.length,strps ss):=by
 rw[f8,tos_c (n+2) cl (fin_c h).2 (fin_c h).1 (by omega)]
 simp only[bd_s,tos_st n ss (fin_s h).2 (fin_s h).1 hn]
theorem eq1_st (n:Nat) (s:Strp) (hx:s.es.length≤1048576∧∀ e∈s.es,e.nums.length≤1048576) (hn:1048576<n) :
  f75 (n+5) s.es.length (effs s.es) s.tn s.pan s.mute s.solo s.es.length (effs s.es) s.tn s.pan s.mute s.solo=some true:=by
 rw[f75,eqs_e n s.es hx.2 hx.1 hn,fltToFlt_wide]
 simp only[bd_s,Bool.not_true,br_f,bne_self_eq_false,same_self,beq_self_eq_true]
theorem eql_st (n:Nat) (ss:List Strp) (hx:∀ s∈ss,s.es.length≤1048576∧∀ e∈s.es,e.nums.length≤1048576) (hl:ss.length≤1048576) (hn:1048576<n):∀ (j i m:Nat),i+j=ss.length→j<m →
  f37.l0 (n+5) m ss.length (strps ss) ss.length (strps ss) (i:Int)=some (Sum.inr ()):=by
 intro j
 induction j with
 | zero =>
   intro i m hi hm
   obtain ⟨m,rfl⟩:∃ k,m=k+1:=⟨m - 1,by omega⟩
   rw[f37.l0,nlt_dec (by omega)];rfl
 | succ j ih =>
   intro i m hi hm
   obtain ⟨m,rfl⟩:∃ k,m=k+1:=⟨m - 1,by omega⟩
   have h:i<ss.length:=by omega
   rw[f37.l0,lt_dec h,in_dec h,Int.toNat_natCast,okS5 h]
   simp only[br_t,Bool.and_self,gd_t,nS5 h,lS5 h,tS5 h,pS5 h,mS5 h,oS5 h,eq1_st n (sAt5 ss i) (hx _ (sAt5_mem h)) hn,bd_s,Bool.not_true,br_f,wrap_succ (show i<9223372036854775807 by omega)]
   exact ih (i+1) m (by omega) (by omega)
theorem eqs_st (n:Nat) (ss:List Strp) (hx:∀ s∈ss,s.es.length≤1048576∧∀ e∈s.es,e.nums.length≤1048576) (hl:ss.length≤1048576) (hn:1048576<n):f37 (n+6) ss.length (strps ss) ss.length (strps ss)=some true:=by
 have e:=eql_st n ss hx hl hn ss.length 0 (n+5) (by omega) (by omega)
 have e:f37.l0 (n+5) (n+5) ss.length (strps ss) ss.length (strps ss) 0=_:=e
 rw[f37]
 simp only[bne_self_eq_false,br_f,e,bd_s,sm_r]
theorem eq_sess (n:Nat) (cl:List Eff) (ss:List Strp) (h:Fin cl ss) (hn:1048576<n):f11 (n+7) cl.length (effs cl) ss.length (strps ss) cl.length (effs cl) ss.length (strps ss)=some true:=by
 rw[f11,eqs_c (n+2) cl (fin_c h).2 (fin_c h).1 (by omega)]
 simp only[bd_s,Bool.not_true,br_f,eqs_st n ss (fin_s h).2 (fin_s h).1 hn]
def mkE (es:List Eff):Int:=2 * (es.length:Int)+(nmE es:Int)
def marksSt:Int→List Strp→List Strp
 | _,[]=>[]
 | s,t::ts=>⟨marksE s t.es,s+mkE t.es,FloatKind.f32.nearest (s+mkE t.es+1),Int.tmod (s+mkE t.es+2) 3==0,Int.tmod (s+mkE t.es+3) 3==0⟩::marksSt (s+mkE t.es+4) ts
def mkSt:List Strp→Int
 | []=>0
 | t::ts=>mkE t.es+4+mkSt ts
theorem mkE_nonneg (es:List Eff):0≤mkE es:=by unfold mkE;omega
theorem mkSt_nonneg:∀ (ss:List Strp),0≤mkSt ss
 | []=>Int.le_refl _
 | t::ts=>by have:=mkSt_nonneg ts;have:=mkE_nonneg t.es;simp only[mkSt];omega
theorem mkE_le (es:List Eff):mkE es≤2 * (szE es:Int):=by unfold mkE;rw[szE_nm];omega
theorem mkSt_le:∀ (ss:List Strp),mkSt ss≤4 * (szSt ss:Int)
 | []=>by simp[mkSt,szSt]
 | t::ts=>by have:=mkSt_le ts;have:=mkE_le t.es;simp only[mkSt,szSt];omega
theorem mkl_st (n:Nat) (hn:1048576<n):∀ (zs p:List Strp) (s:Int) (m:Nat),(∀ t∈zs,t.es.length≤1048576∧∀ e∈t.es,e.nums.length≤1048576)→0≤s→s+mkSt zs≤1099511627776→p.length+zs.length≤1048576→zs.length<m →
  f39.l0 (n+2) m (p++zs).length (strps (p++zs)) s (p.length:Int)=some ((p++zs).length,strps (p++marksSt s zs),s+mkSt zs):=by
 intro zs
 induction zs with
 | nil =>
   intro p s m _ _ _ _ hm
   obtain ⟨m,rfl⟩:∃ k,m=k+1:=⟨m - 1,by simp at hm;omega⟩
   rw[f39.l0,lt_end]
   simp[br,marksSt,mkSt]
 | cons z zs ih =>
   intro p s m hx h0 h1 hp hm
   obtain ⟨m,rfl⟩:∃ k,m=k+1:=⟨m - 1,by simp at hm;omega⟩
   have hz:=hx z (by simp)
   have hmk:=mkE_nonneg z.es
   have hmk2:=mkSt_nonneg zs
   simp only[mkSt] at h1
   have h:p.length<(p++z::zs).length:=by simp
   have hlen:∀ y,(p++y::zs).length=(p++z::zs).length:=fun y=>by simp
   have hb:∀ (y:Strp) (c:Nat),c<5→Nat.ble (p.length * 5+c+1) (strps (p++y::zs)).length=true:=fun y c hc=>by
    rw[strps_length];apply le_ble;simp;omega
   have st:∀ (y z':Strp) (c:Nat) (v:T),c<5→stC z'=(stC y).set c v→setN (strps (p++y::zs)) (p.length * 5+c) [v]=strps (p++z'::zs):=fun y z' c v hc hy=>by
    rw[setN_one]
    have:=rows_set stC_length ⟨[],0,0,false,false⟩ (p++y::zs) p.length c v z' (by simp) hc (by simpa [List.getD] using hy)
    unfold strps
    rw[this];simp
   generalize hK:mkE z.es=K at *
   have w1:IntKind.i64.wrap (s+K+1)=s+K+1:=by rw[wrap64] <;>omega
   have w2:IntKind.i64.wrap (s+K+1+1)=s+K+2:=by rw[wrap64] <;>omega
   have w3:IntKind.i64.wrap (s+K+2+1)=s+K+3:=by rw[wrap64] <;>omega
   have w4:IntKind.i64.wrap (s+K+3+1)=s+K+4:=by rw[wrap64] <;>omega
   have em:=mks_e n z.es hz.2 hz.1 s h0 (by unfold mkE at hK;omega) hn
   have hK':s+2 * (z.es.length:Int)+(nmE z.es:Int)=s+K:=by rw[← hK];unfold mkE;omega
   rw[hK'] at em
   have e0:=st z ⟨marksE s z.es,z.tn,z.pan,z.mute,z.solo⟩ 0 (.lst z.es.length (effs (marksE s z.es))) (by decide) (by simp[stC,marksE_length])
   have e1:=st ⟨marksE s z.es,z.tn,z.pan,z.mute,z.solo⟩ ⟨marksE s z.es,s+K,z.pan,z.mute,z.solo⟩ 1 (.int .i64 (s+K)) (by decide) rfl
   have e2:=st ⟨marksE s z.es,s+K,z.pan,z.mute,z.solo⟩ ⟨marksE s z.es,s+K,FloatKind.f32.nearest (s+K+1),z.mute,z.solo⟩ 2 (.flt .f32 (FloatKind.f32.nearest (s+K+1))) (by decide) rfl
   have e3:=st ⟨marksE s z.es,s+K,FloatKind.f32.nearest (s+K+1),z.mute,z.solo⟩ ⟨marksE s z.es,s+K,FloatKind.f32.nearest (s+K+1),Int.tmod (s+K+2) 3==0,z.solo⟩ 3 (.bool (Int.tmod (s+K+2) 3==0)) (by decide) rfl
   have e4:=st ⟨marksE s z.es,s+K,FloatKind.f32.nearest (s+K+1),Int.tmod (s+K+2) 3==0,z.solo⟩ ⟨marksE s z.es,s+K,FloatKind.f32.nearest (s+K+1),Int.tmod (s+K+2) 3==0,Int.tmod (s+K+3) 3==0⟩ 4 (.bool (Int.tmod (s+K+3) 3==0)) (by decide) rfl
   have hat:sAt5 (p++z::zs) p.length=z:=by simp[sAt5,List.getD]
   have g3:(strps (p++z::zs))[p.length * 5+0]?=some (.lst z.es.length (effs z.es)):=by
    rw[st_get (c:=0) (by decide) _ _ h,hat];rfl
   have g4:okAt [.lst] (strps (p++z::zs)) (p.length * 5+0)=true:=by simp only[okAt,g3,isCK,Bool.and_self]
   have g5:nAt (strps (p++z::zs)) (p.length * 5+0)=z.es.length:=by unfold nAt;rw[g3]
   have g6:lAt (strps (p++z::zs)) (p.length * 5+0)=effs z.es:=by unfold lAt;rw[g3]
   have step:=ih (p++[⟨marksE s z.es,s+K,FloatKind.f32.nearest (s+K+1),Int.tmod (s+K+2) 3==0,Int.tmod (s+K+3) 3==0⟩]) (s+K+4) m (fun t ht=>hx t (by simp[ht])) (by omega) (by omega) (by simp at hp ⊢;omega) (by simp at hm;omega)
   rw[f39.l0,lt_mid,in_mid,toNat_len,wrap_len (z:=z) (show p.length<4611686018427387904 by simp at hp;omega)]
   simp only[br_t,gd_t,g4,Bool.and_self,g5,g6,em,bd_s,e0,hb _ 1 (by decide),e1,w1,hb _ 2 (by decide),e2,w2,hb _ 3 (by decide),e3,w3,hb _ 4 (by decide),e4,w4]
   have q1:(p++[(⟨marksE s z.es,s+K,FloatKind.f32.nearest (s+K+1),Int.tmod (s+K+2) 3==0,Int.tmod (s+K+3) 3==0⟩:Strp)])++zs=p++⟨marksE s z.es,s+K,FloatKind.f32.nearest (s+K+1),Int.tmod (s+K+2) 3==0,Int.tmod (s+K+3) 3==0⟩::zs:=by simp
   have q2:(p++[(⟨marksE s z.es,s+K,FloatKind.f32.nearest (s+K+1),Int.tmod (s+K+2) 3==0,Int.tmod (s+K+3) 3==0⟩:Strp)])++marksSt (s+K+4) zs=p++marksSt s (z::zs):=by simp[marksSt,hK]
   have q3:(p++[(⟨marksE s z.es,s+K,FloatKind.f32.nearest (s+K+1),Int.tmod (s+K+2) 3==0,Int.tmod (s+K+3) 3==0⟩:Strp)]).length=(p++[z]).length:=by simp
   rw[q1,q2,q3,hlen] at step
   rw[step]
   congr 3
   simp only[mkSt,hK];omega
theorem mks_st (n:Nat) (ss:List Strp) (hx:∀ s∈ss,s.es.length≤1048576∧∀ e∈s.es,e.nums.length≤1048576) (hl:ss.length≤1048576) (s:Int) (h0:0≤s) (h1:s+mkSt ss≤1099511627776) (hn:1048576<n) :
  f39 (n+3) ss.length (strps ss) s=some (s+mkSt ss,ss.length,strps (marksSt s ss)):=by
 have e:=mkl_st n hn ss [] s (n+2) hx h0 h1 (by simpa using hl) (by omega)
 have e:f39.l0 (n+2) (n+2) ss.length (strps ss) s 0=some (ss.length,strps (marksSt s ss),s+mkSt ss):=e
 rw[f39,e];rfl
theorem mk_sess (n:Nat) (cl:List Eff) (ss:List Strp) (h:Fin cl ss) (hn:1048576<n):f12 (n+4) cl.length (effs cl) ss.length (strps ss) 1=some (1+mkE cl+mkSt ss,cl.length,effs (marksE 1 cl),ss.length,strps (marksSt (1+mkE cl) ss)):=by
 have b1:=mkE_le cl
 have b2:=mkSt_le ss
 have b3:=mkE_nonneg cl
 have b4:=mkSt_nonneg ss
 have hc:=h.c
 have hs:=h.s
 have e1:=mks_c (n+1) cl (fin_c h).2 (fin_c h).1 1 (by omega) (by unfold mkE at b1;omega) (by omega)
 have e2:=mks_st n ss (fin_s h).2 (fin_s h).1 (1+mkE cl) (by omega) (by omega) hn
 have hq:(1:Int)+2 * (cl.length:Int)+(nmE cl:Int)=1+mkE cl:=by unfold mkE;omega
 rw[hq] at e1
 rw[f12,e1]
 simp only[bd_s,e2]
theorem hdl_e (n:Nat) (hn:1048576<n):∀ (zs p:List Eff) (s:Int) (m:Nat),(∀ e∈zs,e.nums.length≤1048576)→0≤s→s+mkE zs≤1099511627776→p.length+zs.length≤1048576→zs.length<m →
  f82.l0 (n+1) m (p++marksE s zs).length (effs (p++marksE s zs)) s (p.length:Int)=some (.inr (s+mkE zs)):=by
 intro zs
 induction zs with
 | nil =>
   intro p s m _ _ _ _ hm
   obtain ⟨m,rfl⟩:∃ k,m=k+1:=⟨m - 1,by omega⟩
   rw[f82.l0,show marksE s []=[] from rfl,lt_end]
   simp[br,mkE,nmE]
 | cons z zs ih =>
   intro p s m hx h0 h1 hp hm
   obtain ⟨m,rfl⟩:∃ k,m=k+1:=⟨m - 1,by omega⟩
   have hz:=hx z (by simp)
   have hk:mkE (z::zs)=2+(z.nums.length:Int)+mkE zs:=by simp only[mkE,nmE,List.length_cons];omega
   have hk0:=mkE_nonneg zs
   rw[hk] at h1 ⊢
   have hm1:marksE s (z::zs)=⟨s,s+1,marksF .f32 (s+2) z.nums.length⟩::marksE (s+2+(z.nums.length:Int)) zs:=rfl
   rw[hm1]
   generalize hQ:marksE (s+2+(z.nums.length:Int)) zs=Q
   have h:p.length<(p++(⟨s,s+1,marksF .f32 (s+2) z.nums.length⟩:Eff)::Q).length:=by simp
   have hat:eAt (p++(⟨s,s+1,marksF .f32 (s+2) z.nums.length⟩:Eff)::Q) p.length=⟨s,s+1,marksF .f32 (s+2) z.nums.length⟩:=by simp[eAt,List.getD]
   have w1:IntKind.i64.wrap (s+1)=s+1:=by rw[wrap64] <;>omega
   have w2:IntKind.i64.wrap (s+1+1)=s+2:=by rw[wrap64] <;>omega
   have e3:=held32 n z.nums.length (by omega) (s+2) (by omega) (by omega) (by omega)
   have step:=ih (p++[⟨s,s+1,marksF .f32 (s+2) z.nums.length⟩]) (s+2+(z.nums.length:Int)) m (fun e he=>hx e (by simp[he])) (by omega) (by omega) (by simp at hp ⊢;omega) (by simp at hm;omega)
   rw[hQ] at step
   have q1:(p++[(⟨s,s+1,marksF .f32 (s+2) z.nums.length⟩:Eff)])++Q=p++⟨s,s+1,marksF .f32 (s+2) z.nums.length⟩::Q:=by simp
   rw[q1] at step
   rw[f82.l0,lt_mid,in_mid,toNat_len,wrap_len (z:=(⟨s,s+1,marksF .f32 (s+2) z.nums.length⟩:Eff)) (show p.length<4611686018427387904 by simp at hp;omega),okE h]
   simp only[br_t,Bool.and_self,gd_t,kE h,gE h,nE h,lE h,hat,marksF_length,bne_self_eq_false,br_f,w1,w2,e3,bd_s,decide_eq_false (show ¬ (s+2+(z.nums.length:Int)<0) by omega)]
   rw[step]
   congr 2;omega
theorem hds_e (n:Nat) (es:List Eff) (hx:∀ e∈es,e.nums.length≤1048576) (hl:es.length≤1048576) (s:Int) (h0:0≤s) (h1:s+mkE es≤1099511627776) (hn:1048576<n) :
  f82 (n+2) es.length (effs (marksE s es)) s=some (s+mkE es):=by
 have e:=hdl_e n hn es [] s (n+1) hx h0 h1 (by simpa using hl) (by omega)
 simp only[List.nil_append,marksE_length] at e
 have e:f82.l0 (n+1) (n+1) es.length (effs (marksE s es)) s 0=_:=e
 rw[f82,e];rfl
theorem hdl_c (n:Nat) (hn:1048576<n):∀ (zs p:List Eff) (s:Int) (m:Nat),(∀ e∈zs,e.nums.length≤1048576)→0≤s→s+mkE zs≤1099511627776→p.length+zs.length≤1048576→zs.length<m →
  f46.l0 (n+1) m (p++marksE s zs).length (effs (p++marksE s zs)) s (p.length:Int)=some (.inr (s+mkE zs)):=by
 intro zs
 induction zs with
 | nil =>
   intro p s m _ _ _ _ hm
   obtain ⟨m,rfl⟩:∃ k,m=k+1:=⟨m - 1,by omega⟩
   rw[f46.l0,show marksE s []=[] from rfl,lt_end]
   simp[br,mkE,nmE]
 | cons z zs ih =>
   intro p s m hx h0 h1 hp hm
   obtain ⟨m,rfl⟩:∃ k,m=k+1:=⟨m - 1,by omega⟩
   have hz:=hx z (by simp)
   have hk:mkE (z::zs)=2+(z.nums.length:Int)+mkE zs:=by simp only[mkE,nmE,List.length_cons];omega
   have hk0:=mkE_nonneg zs
   rw[hk] at h1 ⊢
   have hm1:marksE s (z::zs)=⟨s,s+1,marksF .f32 (s+2) z.nums.length⟩::marksE (s+2+(z.nums.length:Int)) zs:=rfl
   rw[hm1]
   generalize hQ:marksE (s+2+(z.nums.length:Int)) zs=Q
   have h:p.length<(p++(⟨s,s+1,marksF .f32 (s+2) z.nums.length⟩:Eff)::Q).length:=by simp
   have hat:eAt (p++(⟨s,s+1,marksF .f32 (s+2) z.nums.length⟩:Eff)::Q) p.length=⟨s,s+1,marksF .f32 (s+2) z.nums.length⟩:=by simp[eAt,List.getD]
   have w1:IntKind.i64.wrap (s+1)=s+1:=by rw[wrap64] <;>omega
   have w2:IntKind.i64.wrap (s+1+1)=s+2:=by rw[wrap64] <;>omega
   have e3:=held32 n z.nums.length (by omega) (s+2) (by omega) (by omega) (by omega)
   have step:=ih (p++[⟨s,s+1,marksF .f32 (s+2) z.nums.length⟩]) (s+2+(z.nums.length:Int)) m (fun e he=>hx e (by simp[he])) (by omega) (by omega) (by simp at hp ⊢;omega) (by simp at hm;omega)
   rw[hQ] at step
   have q1:(p++[(⟨s,s+1,marksF .f32 (s+2) z.nums.length⟩:Eff)])++Q=p++⟨s,s+1,marksF .f32 (s+2) z.nums.length⟩::Q:=by simp
   rw[q1] at step
   rw[f46.l0,lt_mid,in_mid,toNat_len,wrap_len (z:=(⟨s,s+1,marksF .f32 (s+2) z.nums.length⟩:Eff)) (show p.length<4611686018427387904 by simp at hp;omega),okE h]
   simp only[br_t,Bool.and_self,gd_t,kE h,gE h,nE h,lE h,hat,marksF_length,bne_self_eq_false,br_f,w1,w2,e3,bd_s,decide_eq_false (show ¬ (s+2+(z.nums.length:Int)<0) by omega)]
   rw[step]
   congr 2;omega
theorem hds_c (n:Nat) (es:List Eff) (hx:∀ e∈es,e.nums.length≤1048576) (hl:es.length≤1048576) (s:Int) (h0:0≤s) (h1:s+mkE es≤1099511627776) (hn:1048576<n) :
  f46 (n+2) es.length (effs (marksE s es)) s=some (s+mkE es):=by
 have e:=hdl_c n hn es [] s (n+1) hx h0 h1 (by simpa using hl) (by omega)
 simp only[List.nil_append,marksE_length] at e
 have e:f46.l0 (n+1) (n+1) es.length (effs (marksE s es)) s 0=_:=e
 rw[f46,e];rfl
theorem marksSt_length:∀ (ss:List Strp) (s:Int),(marksSt s ss).length=ss.length
 | [],_=>rfl
 | t::ts,s=>by simp[marksSt,marksSt_length ts]
theorem hdl_st (n:Nat) (hn:1048576<n):∀ (zs p:List Strp) (s:Int) (m:Nat),(∀ t∈zs,t.es.length≤1048576∧∀ e∈t.es,e.nums.length≤1048576)→0≤s→s+mkSt zs≤1099511627776→p.length+zs.length≤1048576→zs.length<m →
  f47.l0 (n+2) m (p++marksSt s zs).length (strps (p++marksSt s zs)) s (p.length:Int)=some (.inr (s+mkSt zs)):=by
 intro zs
 induction zs with
 | nil =>
   intro p s m _ _ _ _ hm
   obtain ⟨m,rfl⟩:∃ k,m=k+1:=⟨m - 1,by omega⟩
   rw[f47.l0,show marksSt s []=[] from rfl,lt_end]
   simp[br,mkSt]
 | cons z zs ih =>
   intro p s m hx h0 h1 hp hm
   obtain ⟨m,rfl⟩:∃ k,m=k+1:=⟨m - 1,by omega⟩
   have hz:=hx z (by simp)
   have hmk:=mkE_nonneg z.es
   have hmk2:=mkSt_nonneg zs
   simp only[mkSt] at h1 ⊢
   have em:=hds_e n z.es hz.2 hz.1 s h0 (by omega) hn
   generalize hK:mkE z.es=K at *
   obtain ⟨Y,hY⟩:∃ Y:Strp,Y=⟨marksE s z.es,s+K,FloatKind.f32.nearest (s+K+1),Int.tmod (s+K+2) 3==0,Int.tmod (s+K+3) 3==0⟩:=⟨_,rfl⟩
   have hm1:marksSt s (z::zs)=Y::marksSt (s+K+4) zs:=by rw[hY,marksSt,hK]
   rw[hm1]
   generalize hQ:marksSt (s+K+4) zs=Q
   have h:p.length<(p++Y::Q).length:=by simp
   have hat:sAt5 (p++Y::Q) p.length=Y:=by simp[sAt5,List.getD]
   have w1:IntKind.i64.wrap (s+K+1)=s+K+1:=by rw[wrap64] <;>omega
   have w2:IntKind.i64.wrap (s+K+1+1)=s+K+2:=by rw[wrap64] <;>omega
   have w3:IntKind.i64.wrap (s+K+2+1)=s+K+3:=by rw[wrap64] <;>omega
   have w4:IntKind.i64.wrap (s+K+3+1)=s+K+4:=by rw[wrap64] <;>omega
   have y1:Y.es=marksE s z.es:=by rw[hY]
   have y2:Y.tn=s+K:=by rw[hY]
   have y3:Y.pan=FloatKind.f32.nearest (s+K+1):=by rw[hY]
   have y4:Y.mute=(Int.tmod (s+K+2) 3==0):=by rw[hY]
   have y5:Y.solo=(Int.tmod (s+K+3) 3==0):=by rw[hY]
   have step:=ih (p++[Y]) (s+K+4) m (fun t ht=>hx t (by simp[ht])) (by omega) (by omega) (by simp at hp ⊢;omega) (by simp at hm;omega)
   rw[hQ] at step
   have q1:(p++[Y])++Q=p++Y::Q:=by simp
   rw[q1] at step
   rw[f47.l0,lt_mid,in_mid,toNat_len,wrap_len (z:=Y) (show p.length<4611686018427387904 by simp at hp;omega),okS5 h]
   simp only[br_t,Bool.and_self,gd_t,nS5 h,lS5 h,tS5 h,pS5 h,mS5 h,oS5 h,hat,y1,marksE_length,em,bd_s,decide_eq_false (show ¬ (s+K<0) by omega),br_f,y2,bne_self_eq_false,w1,y3,nearest_fne,w2,y4,beq_self_eq_true,Bool.not_true,w3,y5,w4]
   rw[step]
   congr 2;omega
theorem hds_st (n:Nat) (ss:List Strp) (hx:∀ s∈ss,s.es.length≤1048576∧∀ e∈s.es,e.nums.length≤1048576) (hl:ss.length≤1048576) (s:Int) (h0:0≤s) (h1:s+mkSt ss≤1099511627776) (hn:1048576<n) :
  f47 (n+3) ss.length (strps (marksSt s ss)) s=some (s+mkSt ss):=by
 have e:=hdl_st n hn ss [] s (n+2) hx h0 h1 (by simpa using hl) (by omega)
 simp only[List.nil_append,marksSt_length] at e
 have e:f47.l0 (n+2) (n+2) ss.length (strps (marksSt s ss)) s 0=_:=e
 rw[f47,e];rfl
theorem hd_sess (n:Nat) (cl:List Eff) (ss:List Strp) (h:Fin cl ss) (hn:1048576<n):f17 (n+4) cl.length (effs (marksE 1 cl)) ss.length (strps (marksSt (1+mkE cl) ss)) 1=some (1+mkE cl+mkSt ss):=by
 have b1:=mkE_le cl
 have b2:=mkSt_le ss
 have b3:=mkE_nonneg cl
 have b4:=mkSt_nonneg ss
 have hc:=h.c
 have hs:=h.s
 have e1:=hds_c (n+1) cl (fin_c h).2 (fin_c h).1 1 (by omega) (by omega) (by omega)
 have e2:=hds_st n ss (fin_s h).2 (fin_s h).1 (1+mkE cl) (by omega) (by omega) hn
 rw[f17,e1]
 simp only[bd_s,e2,decide_eq_false (show ¬ (1+mkE cl<0) by omega),decide_eq_false (show ¬ (1+mkE cl+mkSt ss<0) by omega),br_f]
section
variable {E:Env} {tE tI tF tFs tEs tSt tCs tSs tS tC tB o1 o2 o3 o4 o5:Nat} {dE dI dF dFs dEs dSt dCs dSs dS dC dB:TD}
theorem effs_inv (hE:E.ty tE=some dE) (kE:dE.kd = .st [(o1,tI),(o2,tI),(o3,tFs)]) (hI:E.ty tI=some dI) (kI:dI.kd = .int .i64) (hFs:E.ty tFs=some dFs) (kFs:dFs.kd = .slc tF) (hF:E.ty tF=some dF) (kF:dF.kd = .flt .f32) :
  ∀ (n:Nat) (cs:List T),WTs E tE n cs→∃ es:List Eff,cs=effs es∧n=es.length∧∀ e∈es,GoodE e∧e.nums.length≤maxLen:=by
 intro n
 induction n with
 | zero=>intro cs h;cases h;exact ⟨[],rfl,rfl,by simp⟩
 | succ n ih =>
   intro cs h
   cases h with
   | snoc h hc =>
     obtain ⟨es,rfl,rfl,hx⟩:=ih _ h
     have hf:=hc.st_inv hE kE
     cases hf with
     | cons h1 r1 =>
       cases r1 with
       | cons h2 r2 =>
         cases r2 with
         | cons h3 r3 =>
           cases r3
           obtain ⟨a,rfl,ga⟩:=h1.int_inv hI kI
           obtain ⟨b,rfl,gb⟩:=h2.int_inv hI kI
           obtain ⟨k,us,rfl,gl,hu⟩:=h3.slc_inv hFs kFs
           obtain ⟨xs,rfl,rfl,gx⟩:=hu.flts hF kF
           refine ⟨es++[⟨a,b,xs⟩],?_,by simp,fun e he => ?_⟩
           ·unfold effs
            rw[List.flatMap_append];rfl
           ·simp only[List.mem_append,List.mem_singleton] at he
            rcases he with he | rfl
            ·exact hx e he
            ·exact ⟨⟨ga,gb,fun x hx=>(gx x hx).w32⟩,gl⟩
theorem strps_inv (hSt:E.ty tSt=some dSt) (kSt:dSt.kd = .st [(o1,tEs),(o2,tI),(o3,tF),(o4,tB),(o5,tB)]) (hB:E.ty tB=some dB) (kB:dB.kd = .bool) (hEs:E.ty tEs=some dEs) (kEs:dEs.kd = .slc tE) {p1 p2 p3:Nat}
  (hE:E.ty tE=some dE) (kE:dE.kd = .st [(p1,tI),(p2,tI),(p3,tFs)]) (hI:E.ty tI=some dI) (kI:dI.kd = .int .i64) (hFs:E.ty tFs=some dFs) (kFs:dFs.kd = .slc tF) (hF:E.ty tF=some dF) (kF:dF.kd = .flt .f32) :
  ∀ (n:Nat) (cs:List T),WTs E tSt n cs→∃ ss:List Strp,cs=strps ss∧n=ss.length∧∀ s∈ss,((∀ e∈s.es,GoodE e)∧GoodI .i64 s.tn∧W32 s.pan)∧s.es.length≤maxLen∧∀ e∈s.es,e.nums.length≤maxLen:=by
 intro n
 induction n with
 | zero=>intro cs h;cases h;exact ⟨[],rfl,rfl,by simp⟩
 | succ n ih =>
   intro cs h
   cases h with
   | snoc h hc =>
     obtain ⟨ss,rfl,rfl,hx⟩:=ih _ h
     have hf:=hc.st_inv hSt kSt
     cases hf with
     | cons h1 r1 =>
       cases r1 with
       | cons h2 r2 =>
         cases r2 with
         | cons h3 r3 =>
           cases r3 with
           | cons h4 r4 =>
             cases r4 with
             | cons h5 r5 =>
               cases r5
               obtain ⟨k,us,rfl,gl,hu⟩:=h1.slc_inv hEs kEs
               obtain ⟨es,rfl,rfl,ge⟩:=effs_inv hE kE hI kI hFs kFs hF kF _ _ hu
               obtain ⟨a,rfl,ga⟩:=h2.int_inv hI kI
               obtain ⟨p,rfl,gp⟩:=h3.flt_inv hF kF
               obtain ⟨b,rfl⟩:=h4.bool_inv hB kB
               obtain ⟨c,rfl⟩:=h5.bool_inv hB kB
               refine ⟨ss++[⟨es,a,p,b,c⟩],?_,by simp,fun s hs => ?_⟩
               ·unfold strps
                rw[List.flatMap_append];rfl
               ·simp only[List.mem_append,List.mem_singleton] at hs
                rcases hs with hs | rfl
                ·exact hx s hs
                ·exact ⟨⟨fun e he=>(ge e he).1,ga,gp.w32⟩,gl,fun e he=>(ge e he).2⟩
theorem session_inv (hS:E.ty tS=some dS) {q1 q2:Nat} (kS:dS.kd = .st [(q1,tCs),(q2,tSs)]) (hCs:E.ty tCs=some dCs) (kCs:dCs.kd = .slc tC) (hC:E.ty tC=some dC) {r1 r2 r3:Nat} (kC:dC.kd = .st [(r1,tI),(r2,tI),(r3,tFs)])
  (hSs:E.ty tSs=some dSs) (kSs:dSs.kd = .slc tSt)
  (hSt:E.ty tSt=some dSt) (kSt:dSt.kd = .st [(o1,tEs),(o2,tI),(o3,tF),(o4,tB),(o5,tB)]) (hB:E.ty tB=some dB) (kB:dB.kd = .bool) (hEs:E.ty tEs=some dEs) (kEs:dEs.kd = .slc tE) {p1 p2 p3:Nat}
  (hE:E.ty tE=some dE) (kE:dE.kd = .st [(p1,tI),(p2,tI),(p3,tFs)]) (hI:E.ty tI=some dI) (kI:dI.kd = .int .i64) (hFs:E.ty tFs=some dFs) (kFs:dFs.kd = .slc tF) (hF:E.ty tF=some dF) (kF:dF.kd = .flt .f32) {ts:List T} (h:WT E tS ts) :
  ∃ (cl:List Eff) (ss:List Strp),ts=[.lst cl.length (effs cl),.lst ss.length (strps ss)]∧GoodS cl ss∧Huge cl ss:=by
 have hm:maxLen≤9223372036854775807:=by decide
 have hf:=h.st_inv hS kS
 cases hf with
 | cons h1 r1 =>
   cases r1 with
   | cons h2 r2 =>
     cases r2
     obtain ⟨k,us,rfl,gl,hu⟩:=h1.slc_inv hCs kCs
     obtain ⟨cl,rfl,rfl,gc⟩:=effs_inv hC kC hI kI hFs kFs hF kF _ _ hu
     obtain ⟨k2,us2,rfl,gl2,hu2⟩:=h2.slc_inv hSs kSs
     obtain ⟨ss,rfl,rfl,gs⟩:=strps_inv hSt kSt hB kB hEs kEs hE kE hI kI hFs kFs hF kF _ _ hu2
     exact ⟨cl,ss,rfl,⟨fun c hc=>(gc c hc).1,fun s hs=>(gs s hs).1⟩,⟨by omega,fun e he=>Nat.le_trans (gc e he).2 hm,by omega,fun s hs=>⟨Nat.le_trans (gs s hs).2.1 hm,fun e he=>Nat.le_trans ((gs s hs).2.2 e he) hm⟩⟩⟩
end
theorem i_copychain_loop (n:Nat) (N:Nat) (ts:List T) (cs:List Eff) (hl:cs.length≤100) (hx:∀ e∈cs,e.nums.length≤1000):∀ (j i m:Nat) (P:List Eff),i+j=cs.length→P.length≤i→j<m →
  f80.l0 (n+1) m N ts P.length (effs P) cs.length (effs cs) (cs.length:Int) (i:Int)=some ((P++cs.drop i).length,effs (P++cs.drop i)):=by
 intro j
 induction j with
 | zero =>
   intro i m P hi hP hm
   obtain ⟨m,rfl⟩:∃ k,m=k+1:=⟨m - 1,by omega⟩
   rw[f80.l0,nlt_dec (by omega),List.drop_eq_nil_of_le (by omega),List.append_nil];rfl
 | succ j ih =>
   intro i m P hi hP hm
   obtain ⟨m,rfl⟩:∃ k,m=k+1:=⟨m - 1,by omega⟩
   have h:i<cs.length:=by omega
   have g:=i_copy n (eAt cs i).nums (by have:=hx _ (eAt_mem h);omega)
   have hp:=push_eff P (eAt cs i)
   unfold effC at hp
   rw[f80.l0,lt_dec h,in_dec h,Int.toNat_natCast,okE h]
   simp only[br_t,Bool.and_self,gd_t,kE h,gE h,nE h,lE h,g,bd_s,push_ok (show P.length<2147483648 by omega),hp]
   rw[push_len (z:=eAt cs i),wrap_succ (show i<9223372036854775807 by omega),ih (i+1) m _ (by omega) (by simp;omega) (by omega),eff_drop h]
   simp
theorem i_copychain (n:Nat) (hn:200<n) (cs:List Eff) (hl:cs.length≤100) (hx:∀ e∈cs,e.nums.length≤1000):f80 (n+2) cs.length (effs cs)=some (cs.length,effs cs):=by
 have e:=i_copychain_loop n cs.length (effs cs) cs hl hx cs.length 0 (n+1) [] (by omega) (by simp) (by omega)
 simp only[List.drop_zero,List.nil_append] at e
 have e:f80.l0 (n+1) (n+1) cs.length (effs cs) 0 [] cs.length (effs cs) (cs.length:Int) 0=_:=e
 rw[f80,e];rfl
theorem push_st (acc:List Strp) (s:Strp):strps acc++setN (reps 1 [(T.lst 0 []),(T.int .i64 (0:Int)),(T.flt .f32 0),(T.bool false),(T.bool false)]) 0 (stC s)=strps (acc++[s]):=by
 unfold strps
 rw[List.flatMap_append,List.flatMap_singleton];rfl
theorem i_own0 (n:Nat) (N1:Nat) (t1:List T) (N3:Nat) (t3:List T) (N5:Nat) (t5:List T) (N7:Nat) (t7:List T) (N11:Nat) (t11:List T) (cs:List Eff) (hl:cs.length≤100) (hx:∀ e∈cs,e.nums.length≤1000):∀ (j i m:Nat) (P:List Eff),i+j=cs.length→P.length≤i→j<m →
  f42.l0 (n+1) m N1 t1 N3 t3 N5 t5 N7 t7 P.length (effs P) N11 t11 cs.length (effs cs) (cs.length:Int) (i:Int)=some (N1,t1,N3,t3,N5,t5,N7,t7,(P++cs.drop i).length,effs (P++cs.drop i),N11,t11):=by
 intro j
 induction j with
 | zero =>
   intro i m P hi hP hm
   obtain ⟨m,rfl⟩:∃ k,m=k+1:=⟨m - 1,by omega⟩
   rw[f42.l0,nlt_dec (by omega),List.drop_eq_nil_of_le (by omega),List.append_nil];rfl
 | succ j ih =>
   intro i m P hi hP hm
   obtain ⟨m,rfl⟩:∃ k,m=k+1:=⟨m - 1,by omega⟩
   have h:i<cs.length:=by omega
   have g:=i_copy n (eAt cs i).nums (by have:=hx _ (eAt_mem h);omega)
   have hp:=push_eff P (eAt cs i)
   unfold effC at hp
   rw[f42.l0,lt_dec h,in_dec h,Int.toNat_natCast,okE h]
   simp only[br_t,Bool.and_self,gd_t,kE h,gE h,nE h,lE h,g,bd_s,push_ok (show P.length<2147483648 by omega),hp]
   rw[push_len (z:=eAt cs i),wrap_succ (show i<9223372036854775807 by omega),ih (i+1) m _ (by omega) (by simp;omega) (by omega),eff_drop h]
   simp
theorem i_own1 (n:Nat) (hn:200<n) (N1:Nat) (t1:List T) (N3:Nat) (t3:List T) (N5:Nat) (t5:List T) (N7:Nat) (t7:List T) (N9:Nat) (t9:List T) (ss:List Strp) (hl:ss.length≤100) (hx:∀ s∈ss,s.es.length≤100∧∀ e∈s.es,e.nums.length≤1000):∀ (j i m:Nat) (P:List Strp),i+j=ss.length→P.length≤i→j<m →
  f42.l1 (n+2) m N1 t1 N3 t3 N5 t5 N7 t7 N9 t9 P.length (strps P) ss.length (strps ss) (ss.length:Int) (i:Int)=some (N5,t5,N7,t7,N9,t9,(P++ss.drop i).length,strps (P++ss.drop i)):=by
 intro j
 induction j with
 | zero =>
   intro i m P hi hP hm
   obtain ⟨m,rfl⟩:∃ k,m=k+1:=⟨m - 1,by omega⟩
   rw[f42.l1,nlt_dec (by omega),List.drop_eq_nil_of_le (by omega),List.append_nil];rfl
 | succ j ih =>
   intro i m P hi hP hm
   obtain ⟨m,rfl⟩:∃ k,m=k+1:=⟨m - 1,by omega⟩
   have h:i<ss.length:=by omega
   have hs:=hx _ (sAt5_mem h)
   have g:=i_copychain n hn (sAt5 ss i).es hs.1 hs.2
   have hp:=push_st P (sAt5 ss i)
   unfold stC at hp
   rw[f42.l1,lt_dec h,in_dec h,Int.toNat_natCast,okS5 h]
   simp only[br_t,Bool.and_self,gd_t,nS5 h,lS5 h,tS5 h,pS5 h,mS5 h,oS5 h,g,bd_s,push_ok (show P.length<2147483648 by omega),hp]
   rw[push_len (z:=sAt5 ss i),wrap_succ (show i<9223372036854775807 by omega),ih (i+1) m _ (by omega) (by simp;omega) (by omega),st_drop h]
   simp
theorem i_own (n:Nat) (hn:200<n) (cs:List Eff) (ss:List Strp) (hl:cs.length≤100) (hx:∀ e∈cs,e.nums.length≤1000) (hl2:ss.length≤100) (hx2:∀ s∈ss,s.es.length≤100∧∀ e∈s.es,e.nums.length≤1000) :
  f42 (n+3) cs.length (effs cs) ss.length (strps ss)=some (cs.length,effs cs,ss.length,strps ss):=by
 have e0:=i_own0 (n+1) cs.length (effs cs) ss.length (strps ss) 0 [] 0 [] 0 [] cs hl hx cs.length 0 (n+2) [] (by omega) (by simp) (by omega)
 have e0:f42.l0 (n+2) (n+2) cs.length (effs cs) ss.length (strps ss) 0 [] 0 [] 0 [] 0 [] cs.length (effs cs) (cs.length:Int) 0=_:=e0
 have e1:=i_own1 n hn cs.length (effs cs) ss.length (strps ss) 0 [] 0 [] cs.length (effs cs) ss hl2 hx2 ss.length 0 (n+2) [] (by omega) (by simp) (by omega)
 have e1:f42.l1 (n+2) (n+2) cs.length (effs cs) ss.length (strps ss) 0 [] 0 [] cs.length (effs cs) 0 [] ss.length (strps ss) (ss.length:Int) 0=_:=e1
 simp only[List.drop_zero,List.nil_append] at e0 e1
 rw[f42,e0]
 simp only[bd_s,e1]
theorem s_own3 (n:Nat) (xs:List Nat) (h:xs.length≤2147483648):f78 (n+1) xs.length (fls .f32 xs)=some (xs.length,fls .f32 xs):=by
 rw[f78,Nat.zero_add,le_ble h];rfl
theorem s_clip9 (n:Nat) (e:Eff) (h:e.nums.length≤2147483648):f41 (n+2) e.kind e.len e.nums.length (fls .f32 e.nums)=some (e.kind,e.len,e.nums.length,fls .f32 e.nums):=by
 rw[f41,s_own3 n e.nums h];rfl
theorem s_effs9_loop (n:Nat) (cs:List Eff) (hl:cs.length≤100) (hx:∀ e∈cs,e.nums.length≤1000):∀ (j i m:Nat) (P:List Eff),i+j=cs.length→P.length≤i→j<m →
  f77.l0 (n+1) m cs.length (effs cs) P.length (effs P) (cs.length:Int) (i:Int)=some ((P++cs.drop i).length,effs (P++cs.drop i)):=by
 intro j
 induction j with
 | zero =>
   intro i m P hi hP hm
   obtain ⟨m,rfl⟩:∃ k,m=k+1:=⟨m - 1,by omega⟩
   rw[f77.l0,nlt_dec (by omega),List.drop_eq_nil_of_le (by omega),List.append_nil];rfl
 | succ j ih =>
   intro i m P hi hP hm
   obtain ⟨m,rfl⟩:∃ k,m=k+1:=⟨m - 1,by omega⟩
   have h:i<cs.length:=by omega
   have g:=s_own3 n (eAt cs i).nums (by have:=hx _ (eAt_mem h);omega)
   have hp:=push_eff P (eAt cs i)
   unfold effC at hp
   rw[f77.l0,lt_dec h,in_dec h,Int.toNat_natCast,okE h]
   simp only[br_t,Bool.and_self,gd_t,kE h,gE h,nE h,lE h,g,bd_s,push_ok (show P.length<2147483648 by omega),hp]
   rw[push_len (z:=eAt cs i),wrap_succ (show i<9223372036854775807 by omega),ih (i+1) m _ (by omega) (by simp;omega) (by omega),eff_drop h]
   simp
theorem s_effs9 (n:Nat) (hn:200<n) (cs:List Eff) (hl:cs.length≤100) (hx:∀ e∈cs,e.nums.length≤1000):f77 (n+2) cs.length (effs cs)=some (cs.length,effs cs):=by
 have e:=s_effs9_loop n cs hl hx cs.length 0 (n+1) [] (by omega) (by simp) (by omega)
 simp only[List.drop_zero,List.nil_append] at e
 have e:f77.l0 (n+1) (n+1) cs.length (effs cs) 0 (reps 0 [(T.int .i64 (0:Int)),(T.int .i64 (0:Int)),(T.lst 0 [])]) (cs.length:Int) 0=_:=e
 rw[f77,e];rfl
theorem s_own0 (n:Nat) (N3:Nat) (t3:List T) (N5:Nat) (t5:List T) (N7:Nat) (t7:List T) (N11:Nat) (t11:List T) (cs:List Eff) (hl:cs.length≤100) (hx:∀ e∈cs,e.nums.length≤1000):∀ (j i m:Nat) (P:List Eff),i+j=cs.length→P.length≤i→j<m →
  f40.l0 (n+2) m cs.length (effs cs) N3 t3 N5 t5 N7 t7 P.length (effs P) N11 t11 (cs.length:Int) (i:Int)=some (cs.length,effs cs,N3,t3,N5,t5,N7,t7,(P++cs.drop i).length,effs (P++cs.drop i),N11,t11):=by
 intro j
 induction j with
 | zero =>
   intro i m P hi hP hm
   obtain ⟨m,rfl⟩:∃ k,m=k+1:=⟨m - 1,by omega⟩
   rw[f40.l0,nlt_dec (by omega),List.drop_eq_nil_of_le (by omega),List.append_nil];rfl
 | succ j ih =>
   intro i m P hi hP hm
   obtain ⟨m,rfl⟩:∃ k,m=k+1:=⟨m - 1,by omega⟩
   have h:i<cs.length:=by omega
   have g:=s_clip9 n (eAt cs i) (by have:=hx _ (eAt_mem h);omega)
   have hp:=push_eff P (eAt cs i)
   unfold effC at hp
   rw[f40.l0,lt_dec h,in_dec h,Int.toNat_natCast,okE h]
   simp only[br_t,Bool.and_self,gd_t,kE h,gE h,nE h,lE h,g,bd_s,push_ok (show P.length<2147483648 by omega),hp]
   rw[push_len (z:=eAt cs i),wrap_succ (show i<9223372036854775807 by omega),ih (i+1) m _ (by omega) (by simp;omega) (by omega),eff_drop h]
   simp
theorem s_own1 (n:Nat) (hn:200<n) (N1:Nat) (t1:List T) (N5:Nat) (t5:List T) (N7:Nat) (t7:List T) (N9:Nat) (t9:List T) (ss:List Strp) (hl:ss.length≤100) (hx:∀ s∈ss,s.es.length≤100∧∀ e∈s.es,e.nums.length≤1000):∀ (j i m:Nat) (P:List Strp),i+j=ss.length→P.length≤i→j<m →
  f40.l1 (n+2) m N1 t1 ss.length (strps ss) N5 t5 N7 t7 N9 t9 P.length (strps P) (ss.length:Int) (i:Int)=some (N5,t5,N7,t7,N9,t9,(P++ss.drop i).length,strps (P++ss.drop i)):=by
 intro j
 induction j with
 | zero =>
   intro i m P hi hP hm
   obtain ⟨m,rfl⟩:∃ k,m=k+1:=⟨m - 1,by omega⟩
   rw[f40.l1,nlt_dec (by omega),List.drop_eq_nil_of_le (by omega),List.append_nil];rfl
 | succ j ih =>
   intro i m P hi hP hm
   obtain ⟨m,rfl⟩:∃ k,m=k+1:=⟨m - 1,by omega⟩
   have h:i<ss.length:=by omega
   have hs:=hx _ (sAt5_mem h)
   have g:=s_effs9 n hn (sAt5 ss i).es hs.1 hs.2
   have hp:=push_st P (sAt5 ss i)
   unfold stC at hp
   rw[f40.l1,lt_dec h,in_dec h,Int.toNat_natCast,okS5 h]
   simp only[br_t,Bool.and_self,gd_t,nS5 h,lS5 h,tS5 h,pS5 h,mS5 h,oS5 h,g,bd_s,push_ok (show P.length<2147483648 by omega),hp]
   rw[push_len (z:=sAt5 ss i),wrap_succ (show i<9223372036854775807 by omega),ih (i+1) m _ (by omega) (by simp;omega) (by omega),st_drop h]
   simp
theorem s_ownq (n:Nat) (hn:200<n) (cs:List Eff) (ss:List Strp) (hl:cs.length≤100) (hx:∀ e∈cs,e.nums.length≤1000) (hl2:ss.length≤100) (hx2:∀ s∈ss,s.es.length≤100∧∀ e∈s.es,e.nums.length≤1000) :
  f40 (n+3) cs.length (effs cs) ss.length (strps ss)=some (cs.length,effs cs,ss.length,strps ss):=by
 have e0:=s_own0 n ss.length (strps ss) 0 [] 0 [] 0 [] cs hl hx cs.length 0 (n+2) [] (by omega) (by simp) (by omega)
 have e0:f40.l0 (n+2) (n+2) cs.length (effs cs) ss.length (strps ss) 0 [] 0 [] 0 (reps 0 [(T.int .i64 (0:Int)),(T.int .i64 (0:Int)),(T.lst 0 [])]) 0 (reps 0 [(T.lst 0 []),(T.int .i64 (0:Int)),(T.flt .f32 0),(T.bool false),(T.bool false)]) (cs.length:Int) 0=_:=e0
 have e1:=s_own1 n hn cs.length (effs cs) 0 [] 0 [] cs.length (effs cs) ss hl2 hx2 ss.length 0 (n+2) [] (by omega) (by simp) (by omega)
 have e1:f40.l1 (n+2) (n+2) cs.length (effs cs) ss.length (strps ss) 0 [] 0 [] cs.length (effs cs) 0 [] (ss.length:Int) 0=_:=e1
 simp only[List.drop_zero,List.nil_append] at e0 e1
 rw[f40,e0]
 simp only[bd_s,e1]
def notOf (t:Int) (c:Eff):Bool:=!(c.kind==t)
theorem keep_cl (t:Int):∀ cl:List Eff,keepRows 3 (prFirst [.ref [.int .i64 t]]) cl.length (effs cl)=some ((cl.filter (notOf t)).length,effs (cl.filter (notOf t)))
 | []=>rfl
 | c::cs=>by
   have h1:(effC c++effs cs).take 3=effC c:=rfl
   have h2:(effC c++effs cs).drop 3=effs cs:=rfl
   have h3:prFirst [.ref [.int .i64 t]] (effC c)=some (c.kind==t):=rfl
   show keepRows 3 _ (cs.length+1) (effC c++effs cs)=_
   simp only[keepRows,h1,h2,h3,keep_cl t cs]
   cases h:c.kind==t
   ·rw[List.filter_cons_of_pos (by simp[notOf,h])];rfl
   ·rw[List.filter_cons_of_neg (by simp[notOf,h])]
theorem s_fr_loop (n:Nat) (t k:Int) (N5:Nat) (t5:List T) (N7:Nat) (t7:List T) (N9:Nat) (t9:List T) (N13:Nat) (t13:List T) (cs:List Eff) (hl:cs.length≤100) (hx:∀ e∈cs,e.nums.length≤1000):∀ (j i m:Nat) (P:List Eff),i+j=cs.length→P.length≤i→j<m →
  f15.l0 (n+2) m t k cs.length (effs cs) N5 t5 N7 t7 N9 t9 P.length (effs P) N13 t13 (cs.length:Int) (i:Int)=some (t,k,cs.length,effs cs,N5,t5,N7,t7,N9,t9,(P++(cs.drop i).filter (notOf t)).length,effs (P++(cs.drop i).filter (notOf t)),N13,t13):=by
 intro j
 induction j with
 | zero =>
   intro i m P hi hP hm
   obtain ⟨m,rfl⟩:∃ k,m=k+1:=⟨m - 1,by omega⟩
   rw[f15.l0,nlt_dec (by omega),List.drop_eq_nil_of_le (by omega),List.filter_nil,List.append_nil];rfl
 | succ j ih =>
   intro i m P hi hP hm
   obtain ⟨m,rfl⟩:∃ k,m=k+1:=⟨m - 1,by omega⟩
   have h:i<cs.length:=by omega
   have g:=s_clip9 n (eAt cs i) (by have:=hx _ (eAt_mem h);omega)
   have hp:=push_eff P (eAt cs i)
   unfold effC at hp
   rw[f15.l0,lt_dec h,in_dec h,Int.toNat_natCast,okE h,eff_drop h]
   simp only[br_t,Bool.and_self,gd_t,kE h,gE h,nE h,lE h,g,bd_s,push_ok (show P.length<2147483648 by omega),hp,wrap_succ (show i<9223372036854775807 by omega)]
   rw[push_len (z:=eAt cs i)]
   cases hk:(eAt cs i).kind==t
   ·rw[show ((eAt cs i).kind != t)=true by simp[bne,hk],br_t,ih (i+1) m _ (by omega) (by simp;omega) (by omega),List.filter_cons_of_pos (by simp[notOf,hk])]
    simp
   ·rw[show ((eAt cs i).kind != t)=false by simp[bne,hk],br_f,ih (i+1) m _ (by omega) (by omega) (by omega),List.filter_cons_of_neg (by simp[notOf,hk])]
theorem szE_app:∀ (a b:List Eff),szE (a++b)=szE a+szE b
 | [],b=>by simp[szE]
 | e::a,b=>by simp only[List.cons_append,szE,szE_app a b];omega
theorem szE_few:∀ (a:List Eff),(∀ e∈a,e.nums.length≤256)→szE a≤257 * a.length
 | [],_=>by simp[szE]
 | e::a,h=>by
   have:=szE_few a (fun x hx=>h x (by simp[hx]))
   have:=h e (by simp)
   simp only[szE,List.length_cons];omega
theorem szSt_set:∀ (ss:List Strp) (i:Nat) (y:Strp),y.es=[]→szSt (ss.set i y)≤szSt ss
 | [],_,_,_=>by simp[szSt]
 | s::ss,0,y,h=>by simp only[List.set_cons_zero,szSt,h,szE];omega
 | s::ss,i+1,y,h=>by have:=szSt_set ss i y h;simp only[List.set_cons_succ,szSt];omega
def mutedS (s:Strp):Strp:=⟨[],s.tn,s.pan,s.mute,s.solo⟩
theorem st_bare {ss:List Strp} {i:Nat} (h:i<ss.length):setN (strps ss) (i * 5+0) [T.lst 0 []]=strps (ss.set i (mutedS (sAt5 ss i))):=by
 rw[setN_one]
 exact rows_set stC_length ⟨[],0,0,false,false⟩ ss i 0 (T.lst 0 []) (mutedS (sAt5 ss i)) h (by decide) rfl
theorem eff_small (e:Ef):e.eff.nums.length≤10:=by cases e <;>simp[Ef.eff]
theorem both (n:Nat) (hn:1200<n) (cl:List Eff) (ss:List Strp) (hg:GoodS cl ss) (hf:Fin cl ss) (t k:Int) :
  ∃ (cl':List Eff) (ss':List Strp) (b:Bool),Fin cl' ss'∧f15 (n+200) cl.length (effs cl) ss.length (strps ss) t k=some (cl'.length,effs cl',ss'.length,strps ss',b)∧f16 (n+200) cl.length (effs cl) ss.length (strps ss) t k=some (cl'.length,effs cl',ss'.length,strps ss',b):=by
 have hl:=(fin_s hf).1
 have fin0:Fin [] []:=⟨by simp[szE],by simp[szSt]⟩
 have v1:=s_sessB (n+193) cl ss (by omega)
 have v1:f27 (n+199) cl.length (effs cl) ss.length (strps ss)=_:=v1
 have v2:=i_sessB (n+192) cl ss (by omega)
 have v2:f50 (n+198) cl.length (effs cl) ss.length (strps ss)=_:=v2
 have w:IntKind.i64.wrap ((ss.length:Int) - 1)=(ss.length:Int) - 1:=by rw[wrap64] <;>omega
 have c2:f29 (n+199) k=some (decide (0≤k∧k≤256)):=by rw[f29,s_in];rfl
 rw[f15,f16,v1,f33,v2,w]
 simp only[bd_s,s_in,i_index (n+196) t ss.length (by omega),i_count (n+196),c2]
 by_cases h1:sessB cl ss=true
 case neg =>
  have h1:sessB cl ss=false:=by simpa using h1
  rw[h1];exact ⟨[],[],false,fin0,rfl,rfl⟩
 rw[h1]
 by_cases h2:0≤t∧t≤(ss.length:Int) - 1
 case neg=>rw[decide_eq_false h2];exact ⟨[],[],false,fin0,rfl,rfl⟩
 rw[decide_eq_true h2]
 by_cases h3:0≤k∧k≤256
 case neg=>rw[decide_eq_false h3];exact ⟨[],[],false,fin0,rfl,rfl⟩
 rw[decide_eq_true h3]
 have hok:=sess_ok h1
 obtain ⟨i,rfl⟩:=Int.eq_ofNat_of_zero_le h2.1
 obtain ⟨k,rfl⟩:=Int.eq_ofNat_of_zero_le h3.1
 have hi:i<ss.length:=by omega
 obtain ⟨es,e1,e2,e3⟩:=strip_efs hok hg (sAt5_mem hi)
 obtain ⟨f1,f2⟩:=chan_facts e2 (i:Int) cl k
 have hcl:∀ e∈cl,e.nums.length≤256:=fun e he=>(hok.k e he).2.2
 have hst:∀ s∈ss,s.es.length≤100∧∀ e∈s.es,e.nums.length≤1000:=by
  intro s hs
  obtain ⟨fs,g1,g2,g3⟩:=strip_efs hok hg hs
  refine ⟨by rw[← g1,effL_length];omega,fun e he => ?_⟩
  rw[← g1] at he
  obtain ⟨f,-,rfl⟩:=List.mem_map.1 he
  have:=eff_small f;omega
 have hc12:=hok.c
 have hs8:=hok.n
 have g1:=s_channel (n+95) (by omega) hok i k hi (by omega) es e1 e2 e3
 have g1:f30 (n+199) cl.length (effs cl) ss.length (strps ss) (i:Int) (k:Int)=_:=g1
 have g2:=i_channel (n+95) (by omega) hok i k hi (by omega) es e1 e2 e3
 have g2:f34 (n+199) cl.length (effs cl) ss.length (strps ss) (i:Int) (k:Int)=_:=g2
 have o1:=s_ownq (n+196) (by omega) cl ss (by omega) (fun e he=>by have:=hcl e he;omega) (by omega) hst
 have o1:f40 (n+199) cl.length (effs cl) ss.length (strps ss)=_:=o1
 have o2:=i_own (n+196) (by omega) cl ss (by omega) (fun e he=>by have:=hcl e he;omega) (by omega) hst
 have o2:f42 (n+199) cl.length (effs cl) ss.length (strps ss)=_:=o2
 have l1:=s_fr_loop (n+197) (i:Int) (k:Int) ss.length (strps ss) 0 [] 0 [] ss.length (strps ss) cl (by omega) (fun e he=>by have:=hcl e he;omega) cl.length 0 (n+199) [] (by omega) (by simp) (by omega)
 simp only[List.drop_zero,List.nil_append] at l1
 have l1:f15.l0 (n+199) (n+199) (i:Int) (k:Int) cl.length (effs cl) ss.length (strps ss) 0 [] 0 [] 0 (reps 0 [(T.int .i64 (0:Int)),(T.int .i64 (0:Int)),(T.lst 0 [])]) ss.length (strps ss) (cl.length:Int) 0=_:=l1
 obtain ⟨fl,hfl⟩:∃ fl,fl=cl.filter (notOf (i:Int)):=⟨_,rfl⟩
 have hfll:fl.length≤cl.length:=by rw[hfl];exact List.length_filter_le _ _
 have hx3:xDelFirst 3 (n+199) cl.length (effs cl) (i:Int)=some (fl.length,effs fl,cl.length,effs cl):=by
  show delRows 3 (prFirst [.ref [.int .i64 (i:Int)]]) cl.length (effs cl)=_
  unfold delRows
  rw[if_pos (by omega),keep_cl,← hfl]
 rw[← hfl] at l1
 obtain ⟨X,hX⟩:∃ X:Eff,X=⟨(i:Int),0,chanM es (i:Int) cl k⟩:=⟨_,rfl⟩
 have hp:=push_eff fl X
 rw[hX,← hX] at hp
 have hp2:effs fl++setN (reps 1 [(T.int .i64 (0:Int)),(T.int .i64 (0:Int)),(T.lst 0 [])]) 0 (setN (setN [(T.int .i64 (0:Int)),(T.int .i64 (0:Int)),(T.lst 0 [])] 0 [(T.int .i64 (i:Int))]) 2 [(T.lst (chanM es (i:Int) cl k).length (fls .f32 (chanM es (i:Int) cl k)))])=effs (fl++[X]):=by
  rw[← hp,hX];rfl
 rw[f1] at hp2
 have pk:Nat.ble (fl++[X]).length 2147483648=true:=le_ble (by simp;omega)
 obtain ⟨S,hS⟩:∃ S,S=ss.set i (mutedS (sAt5 ss i)):=⟨_,rfl⟩
 have hb:=st_bare hi
 rw[← hS] at hb
 have hSl:S.length=ss.length:=by rw[hS];simp
 have v3:=s_sessB (n+193) (fl++[X]) S (by omega)
 have v3:f27 (n+199) (fl++[X]).length (effs (fl++[X])) S.length (strps S)=_:=v3
 have v4:=i_sessB (n+192) (fl++[X]) S (by omega)
 have v4:f50 (n+198) (fl++[X]).length (effs (fl++[X])) S.length (strps S)=_:=v4
 have ck:f45 (n+199) (fl++[X]).length (effs (fl++[X])) S.length (strps S)=some (if sessB (fl++[X]) S=true then .inr ((fl++[X]).length,effs (fl++[X]),S.length,strps S,true,(fl++[X]).length,effs (fl++[X]),S.length,strps S) else .inl (0,[],0,[],false,(fl++[X]).length,effs (fl++[X]),S.length,strps S)):=by
  rw[f45,v4,bd_s]
  cases sessB (fl++[X]) S <;>rfl
 have ble:Nat.ble (i * 5+0+1) (strps ss).length=true:=by rw[strps_length];apply le_ble;omega
 have hpl:fl.length+1=(fl++[X]).length:=by simp
 have z0:[(T.lst 0 (reps 0 [(T.int .i64 (0:Int)),(T.int .i64 (0:Int)),(T.lst 0 [])]))]=[T.lst 0 []]:=rfl
 have r1:decide ((0:Int)≤(i:Int)∧(i:Int)<((ss.length:Nat):Int))=true:=in_dec hi
 simp only[Bool.not_true,br_f,br_t,bd_s,o1,o2,l1,hx3,g1,g2,gd_t,hpl,pk,hp2,r1,Int.toNat_natCast,ble,z0,hb]
 rw[← hSl]
 simp only[v3,ck,bd_s]
 have fin1:Fin (fl++[X]) S:=by
  refine ⟨?_,?_⟩
  ·have q1:szE fl≤257 * fl.length:=szE_few fl (fun e he=>hcl e (by rw[hfl] at he;exact (List.mem_filter.1 he).1))
   rw[szE_app,hX]
   simp only[szE,f1]
   omega
  ·have q1:=szSt_set ss i (mutedS (sAt5 ss i)) rfl
   have q2:=hf.s
   rw[hS];omega
 cases hv:sessB (fl++[X]) S
 ·exact ⟨[],[],false,fin0,rfl,rfl⟩
 ·exact ⟨fl++[X],S,true,fin1,rfl,rfl⟩
theorem exact_ (cl:List Eff) (ss:List Strp) (hg:GoodS cl ss) (hh:Huge cl ss) (t:Int) (gt:GoodI .i64 t) (k:Int) (gk:GoodI .i64 k):∃ n,f4 n cl.length (effs cl) ss.length (strps ss) t k=some true:=by
 refine ⟨1048577+1+2001,?_⟩
 generalize hN:1048577+1=N
 rw[show N+2001=(N+2000)+1 from rfl,f4]
 rcases sz_sess (N+1994) cl ss hh (by omega) with ⟨r,r0,e0,hf⟩ | e0
 case inr =>
  have e0:f6 (N+2000) cl.length (effs cl) ss.length (strps ss) 1048576=some (-1):=e0
  rw[e0];rfl
 have e0:f6 (N+2000) cl.length (effs cl) ss.length (strps ss) 1048576=some r:=e0
 have e1:=to_sess (N+1994) cl ss hf (by omega)
 have e1:f8 (N+2000) cl.length (effs cl) ss.length (strps ss)=_:=e1
 obtain ⟨cl',ss',b,hx,e2,e3⟩:=both (N+1800) (by omega) cl ss hg hf t k
 have e2:f15 (N+2000) cl.length (effs cl) ss.length (strps ss) t k=_:=e2
 have e3:f16 (N+2000) cl.length (effs cl) ss.length (strps ss) t k=_:=e3
 have e4:=eq_sess (N+1993) cl ss hf (by omega)
 have e4:f11 (N+2000) cl.length (effs cl) ss.length (strps ss) cl.length (effs cl) ss.length (strps ss)=_:=e4
 have e5:=mk_sess (N+1996) cl ss hf (by omega)
 have e5:f12 (N+2000) cl.length (effs cl) ss.length (strps ss) 1=_:=e5
 have e6:=eq_sess (N+1993) cl' ss' hx (by omega)
 have e6:f11 (N+2000) cl'.length (effs cl') ss'.length (strps ss') cl'.length (effs cl') ss'.length (strps ss')=_:=e6
 have e7:=mk_sess (N+1996) cl' ss' hx (by omega)
 have e7:f12 (N+2000) cl'.length (effs cl') ss'.length (strps ss') 1=_:=e7
 have e8:=hd_sess (N+1996) cl' ss' hx (by omega)
 have e8:f17 (N+2000) cl'.length (effs (marksE 1 cl')) ss'.length (strps (marksSt (1+mkE cl') ss')) 1=_:=e8
 have b1:=mkE_nonneg cl
 have b2:=mkSt_nonneg ss
 have b3:=mkE_nonneg cl'
 have b4:=mkSt_nonneg ss'
 simp only[e0,bd_s,decide_eq_false (show ¬ r<0 by omega),br_f,e1,e2,e3,e4,e5,e6,e7,e8,Bool.not_true,beq_self_eq_true,decide_eq_false (show ¬ (1+mkE cl+mkSt ss<0) by omega),decide_eq_false (show ¬ (1+mkE cl'+mkSt ss'<0) by omega),bne_self_eq_false]
theorem law4:∀ args,LawArgs E Tryz.f4.params.toList args→∃ N os,evalFn E N 4 args=some ⟨[⟨false,[.leaf],[.bool true]⟩],os⟩:=by
 intro args h0
 have hp:Tryz.f4.params.toList=[25,2,2]:=by kernel_rfl
 rw[hp] at h0
 obtain ⟨ts0,r0,rfl,hw0,h1⟩:=h0.cons_inv (d:=⟨true,2,48,[.sl .own [.leaf,.leaf,.sl .own [.leaf]],.sl .own [.sl .own [.leaf,.leaf,.sl .own [.leaf]],.leaf,.leaf,.leaf,.leaf]],[.lst 0 [],.lst 0 []],.st [(0,22),(1,23)]⟩) (by kernel_rfl)
 obtain ⟨cl0,ss0,rfl,gs0,gh0⟩:=session_inv (dS:=⟨true,2,48,[.sl .own [.leaf,.leaf,.sl .own [.leaf]],.sl .own [.sl .own [.leaf,.leaf,.sl .own [.leaf]],.leaf,.leaf,.leaf,.leaf]],[.lst 0 [],.lst 0 []],.st [(0,22),(1,23)]⟩) (by kernel_rfl) rfl (dCs:=⟨false,1,24,[.sl .own [.leaf,.leaf,.sl .own [.leaf]]],[.lst 0 []],.slc 101⟩) (by kernel_rfl) rfl (dC:=⟨true,3,40,[.leaf,.leaf,.sl .own [.leaf]],[.int .i64 0,.int .i64 0,.lst 0 []],.st [(0,2),(1,2),(2,27)]⟩) (by kernel_rfl) rfl (dSs:=⟨false,1,24,[.sl .own [.sl .own [.leaf,.leaf,.sl .own [.leaf]],.leaf,.leaf,.leaf,.leaf]],[.lst 0 []],.slc 105⟩) (by kernel_rfl) rfl (dSt:=⟨true,5,40,[.sl .own [.leaf,.leaf,.sl .own [.leaf]],.leaf,.leaf,.leaf,.leaf],[.lst 0 [],.int .i64 0,.flt .f32 0,.bool false,.bool false],.st [(0,103),(1,2),(2,54),(3,4),(4,4)]⟩) (by kernel_rfl) rfl (dB:=⟨false,1,1,[.leaf],[.bool false],.bool⟩) (by kernel_rfl) rfl (dEs:=⟨false,1,24,[.sl .own [.leaf,.leaf,.sl .own [.leaf]]],[.lst 0 []],.slc 156⟩) (by kernel_rfl) rfl (dE:=⟨true,3,40,[.leaf,.leaf,.sl .own [.leaf]],[.int .i64 0,.int .i64 0,.lst 0 []],.st [(0,2),(1,2),(2,27)]⟩) (by kernel_rfl) rfl (dI:=⟨false,1,8,[.leaf],[.int .i64 0],.int .i64⟩) (by kernel_rfl) rfl (dFs:=⟨false,1,24,[.sl .own [.leaf]],[.lst 0 []],.slc 54⟩) (by kernel_rfl) rfl (dF:=⟨false,1,4,[.leaf],[.flt .f32 0],.flt .f32⟩) (by kernel_rfl) rfl hw0
 obtain ⟨ts1,r1,rfl,hw1,h2⟩:=h1.cons_inv (d:=⟨false,1,8,[.leaf],[.int .i64 0],.int .i64⟩) (by kernel_rfl)
 obtain ⟨a1,rfl,g1⟩:=hw1.int_inv (k:=.i64) (d:=⟨false,1,8,[.leaf],[.int .i64 0],.int .i64⟩) (by kernel_rfl) rfl
 obtain ⟨ts2,r2,rfl,hw2,h3⟩:=h2.cons_inv (d:=⟨false,1,8,[.leaf],[.int .i64 0],.int .i64⟩) (by kernel_rfl)
 obtain ⟨a2,rfl,g2⟩:=hw2.int_inv (k:=.i64) (d:=⟨false,1,8,[.leaf],[.int .i64 0],.int .i64⟩) (by kernel_rfl) rfl
 obtain rfl:=h3.nil_inv
 obtain ⟨N,hN⟩:=exact_ cl0 ss0 gs0 gh0 a1 g1 a2 g2
 exact ⟨N,_,f4.ok N (cl0.length,effs cl0,ss0.length,strps ss0,a1,a2) true hN⟩
end Go.Proofs.YtdobhipbgpiceaaGreat.D
end
section
namespace Go.Proofs.YtdobhipbgpiceaaGreat.fnExactFreezeTrack
open Go Go.ChangeShapes Go.WideShapes Go.ChangeAt Go.RowKit Go.Desk
set_option linter.unusedVariables false
theorem own:ownKnob Tryz.prog.godebug=none:=by kernel_rfl
theorem laidOut:laidOutB Tryz.prog=true:=by kernel_rfl
set_option maxRecDepth 100000 in
theorem lifted (os:Os) (started:os.Started) (H:Type) (enc:TypeId × Value→H) :
  ReturnsInHanded {} Tryz.checked os 4 .any (Rows.fnExactFreezeTrackSpec.pre6 enc Tryz.prog Tryz.f4 Rows.fnExactFreezeTrackRow.domain false) (Rows.fnExactFreezeTrackSpec.post enc Tryz.prog Tryz.f4 false true false false):=by
 refine returnsInHanded_of_change (C:=Tryz.checked) own started (by kernel_rfl) Tryz.func4
  (ChangeSpec.witness6 (enc:=enc) (C:=Tryz.checked) false ⟨#[],#[.agg #[.slice none 0 0,.slice none 0 0],.int .i64 0,.int .i64 0],[]⟩ 8 (by kernel_rfl) (by kernel_rfl) (by kernel_rfl) (by kernel_rfl)) ?_
 intro W base args ds gs before hval hW hcnd _
 exact law_contract (c:=D.c4) Tryz.checked.mixed D.tysOk D.fnOk Tryz.func4 (by kernel_rfl) (by kernel_rfl) (by kernel_rfl) Tryz.underlying4 rfl
  (fun ds h=>by
    rw[show Tryz.f4.params.toList.length=3 by kernel_rfl] at h
    match ds,h with
    | [_,_,_],_=>rfl)
  laidOut (N:=8) (by kernel_rfl) (by kernel_rfl) D.law4 hval hW
theorem over:Rows.fnExactFreezeTrackRow.holds Tryz.pinned (OpenSpec.ofChange Rows.fnExactFreezeTrackSpec) :=
 OpenClaim.holds_of_wide 4 Tryz.f4 rfl rfl rfl rfl rfl rfl rfl ⟨rfl,rfl,rfl,rfl,rfl⟩ rfl rfl rfl rfl rfl (by kernel_rfl) Tryz.func4 (by kernel_rfl)
  (of_decide_eq_true (by kernel_rfl)) (by unfold Func.isWrapper;first | (rw[if_pos (by decide +kernel)];kernel_rfl) | (rw[if_neg (by decide +kernel)];exact ⟨rfl,rfl⟩))
  (fun os started H enc _=>lifted os started H enc)
theorem proved:Rows.FnExactFreezeTrackSaid:=over
#print axioms proved
end Go.Proofs.YtdobhipbgpiceaaGreat.fnExactFreezeTrack
namespace Go.Proofs.YtdobhipbgpiceaaGreat
theorem fnExactFreezeTrack_holds:Rows.FnExactFreezeTrackSaid:=fnExactFreezeTrack.proved
end Go.Proofs.YtdobhipbgpiceaaGreat
end
