/- FnExactSplitClip holds: for every input the law returns true, and its arguments read as before. -/
import Derived.Test.YtdobhipbgpiceaaM10d
set_option linter.all false
set_option linter.unusedVariables false
open List (all_cons all_eq_true any_eq_false any_eq_true append_assoc append_nil cons_append count_append drop_drop drop_eq_getElem_cons drop_eq_nil_of_le drop_left' drop_zero flatMap_append flatMap_cons flatMap_def flatten_cons flatten_nil foldl_cons length_append length_cons length_drop length_eq_one_iff length_eq_zero_iff length_set length_singleton length_take mapM_cons map_append map_congr_left map_cons map_nil mem_append mem_append_left mem_append_right mem_cons mem_cons_of_mem mem_cons_self mem_flatten mem_map mem_singleton nil_append nodup_append nodup_cons perm_append_comm perm_iff_count perm_middle replicate_succ take_append_drop take_left' take_length take_of_length_le take_succ_cons take_zero)
section
namespace Go.Proofs.Ytdobhipbgpiceaa.D
open Go Go.Desk
set_option linter.unusedVariables false
theorem NZ:∀ (es:List As),Hp es=es.length+Ga es
 | []=>rfl
 | e::es=>by rw[Hp,NZ es,Ga,length_cons];omega
def N6:List Ao→Nat
 | []=>0
 | s::ss=>Hp s.es+N6 ss
theorem Qs:∀ (es:List Ao),HX es=es.length+N6 es
 | []=>rfl
 | e::es=>by rw[HX,Qs es,N6,length_cons];omega
def CB (left:Int) (k:Nat):Int:=if (k:Int)≤left then left - k else -1
theorem W6 (n:Nat) (xs:List Nat) (hx:xs.length≤9223372036854775807) (left:Int) (h0:0≤left) (h1:left≤1048576):f179 (n+1) xs.length (Bw .f32 xs) left=some (CB left xs.length):=by
 rw[f179,show IntKind.i64.wrap (left - (xs.length:Int))=left - (xs.length:Int) by rw[A9] <;>omega]
 unfold CB
 by_cases h:(xs.length:Int)≤left
 ·rw[decide_eq_false (by omega),if_pos h];rfl
 ·rw[decide_eq_true (by omega),if_neg h];rfl
theorem DF {left:Int} {k:Nat} (h0:0≤left):decide (CB left k<0) = !decide ((k:Int)≤left):=by
 unfold CB
 split
 ·rename_i h;rw[decide_eq_true h];exact decide_eq_false (by omega)
 ·rename_i h;rw[decide_eq_false h];rfl
def AV:Int→List As→List As
 | _,[]=>[]
 | s,e::es=>⟨s,s+1,Af .f32 (s+2) e.nums.length⟩::AV (s+2+(e.nums.length:Int)) es
theorem Cw:∀ (es:List As) (s:Int),(AV s es).length=es.length
 | [],_=>rfl
 | e::es,s=>by simp[AV,Cw es]
theorem Wk (n:Nat) (e:As) (hx:e.nums.length≤9223372036854775807) (left:Int) (h0:0≤left) (h1:left≤1048576):f195 (n+2) e.kind e.len e.nums.length (Bw .f32 e.nums) left=some (CB left e.nums.length):=by
 rw[f195,W6 n e.nums hx left h0 h1]
 simp only[Aw,DF h0]
 by_cases h:(e.nums.length:Int)≤left
 ·rw[decide_eq_true h];rfl
 ·rw[decide_eq_false h];unfold CB;rw[if_neg h];rfl
theorem XR (n:Nat) (es:List As) (hx:∀ e∈es,e.nums.length≤9223372036854775807) (hl:es.length≤1048576):∀ (j i m:Nat) (left:Int),0≤left→left≤1048576→i+j=es.length→j<m →
  f180.l0 (n+2) m es.length (AD es) left (i:Int)=some (if (Ga (es.drop i):Int)≤left then Sum.inr (left - (Ga (es.drop i):Int)) else Sum.inl (-1)):=by
 intro j
 induction j with
 | zero =>
   intro i m left h0 h1 hi hm
   obtain ⟨m,rfl⟩:=zc m (by omega)
   rw[f180.l0,A2 (by omega),drop_eq_nil_of_le (by omega)]
   simp[br,Ga,h0]
 | succ j ih =>
   intro i m left h0 h1 hi hm
   obtain ⟨m,rfl⟩:=zc m (by omega)
   have h:i<es.length:=by omega
   have e1:=Wk n (Ay es i) (hx _ (Dg h)) left h0 h1
   rw[f180.l0,BS h,BM h,zT,NJ h,D6 h,Ga]
   simp only[Bc,zA,CP,kE h,gE h,nE h,lE h,e1,Aw,DF h0,Ad (show i<9223372036854775807 by omega)]
   by_cases hc:((Ay es i).nums.length:Int)≤left
   ·rw[decide_eq_true hc]
    simp only[Bool.not_true,BU]
    have hL:CB left (Ay es i).nums.length=left - ((Ay es i).nums.length:Int):=by unfold CB;rw[if_pos hc]
    rw[hL,ih (i+1) m _ (by omega) (by omega) (by omega) (by omega)]
    congr 1
    by_cases h2:(Ga (es.drop (i+1)):Int)≤left - ((Ay es i).nums.length:Int)
    ·rw[if_pos h2,if_pos (by omega)];congr 1;omega
    ·rw[if_neg h2,if_neg (by omega)]
   ·rw[decide_eq_false hc,if_neg (by omega)];rfl
theorem Wx (n:Nat) (es:List As) (hx:∀ e∈es,e.nums.length≤9223372036854775807) (hx2:es.length≤9223372036854775807) (left:Int) (h0:0≤left) (h1:left≤1048576) (hn:1048577<n) :
  f180 (n+3) es.length (AD es) left=some (CB left (Hp es)):=by
 rw[f180,show IntKind.i64.wrap (left - (es.length:Int))=left - (es.length:Int) by rw[A9] <;>omega,NZ]
 unfold CB
 by_cases h:(es.length:Int)≤left
 ·have e:=XR n es hx (by omega) es.length 0 (n+2) (left - (es.length:Int)) (by omega) (by omega) (by omega) (by omega)
  have e:f180.l0 (n+2) (n+2) es.length (AD es) (left - (es.length:Int)) 0=_:=e
  rw[decide_eq_false (by omega),e,drop_zero]
  by_cases h2:(Ga es:Int)≤left - (es.length:Int)
  ·rw[if_pos h2,if_pos (by omega)]
   simp only[BU,Aw,L2]
   congr 1;omega
  ·rw[if_neg h2,if_neg (by omega)];rfl
 ·rw[decide_eq_true (by omega),if_neg (by omega)];rfl
theorem Wh (n:Nat) (e:As) (hx:e.nums.length≤1048576) (hn:1048576<n):f196 (n+2) e.kind e.len e.nums.length (Bw .f32 e.nums)=some (e.kind,e.len,e.nums.length,Bw .f32 e.nums):=by
 rw[f196,SS n e.nums hx (by omega)];rfl
theorem Xn (n:Nat) (es:List As) (hx:∀ e∈es,e.nums.length≤1048576) (hl:es.length≤1048576) (hn:1048576<n):∀ (j i m:Nat) (ys:List As),ys.length=es.length→i+j=es.length→j<m →
  f182.l0 (n+2) m es.length (AD es) es.length (AD (es.take i++ys.drop i)) (i:Int)=some (es.length,AD es):=by
 intro j
 induction j with
 | zero =>
   intro i m ys hy hi hm
   obtain ⟨m,rfl⟩:=zc m (by omega)
   rw[f182.l0,A2 (by omega),take_of_length_le (by omega),drop_eq_nil_of_le (by omega),append_nil];rfl
 | succ j ih =>
   intro i m ys hy hi hm
   obtain ⟨m,rfl⟩:=zc m (by omega)
   have h:i<es.length:=by omega
   have hlen:(es.take i++ys.drop i).length=es.length:=by rw[length_append,length_take,length_drop];omega
   have h':i<(es.take i++ys.drop i).length:=by omega
   have hb:Nat.ble (i * 3+0+3) (AD (es.take i++ys.drop i)).length=true:=by rw[DB,hlen];exact GE (by omega)
   have hset:(es.take i++ys.drop i).set i (Ay es i)=es.take (i+1)++ys.drop (i+1):=by
    have:Ay es i=es[i]:=by simp[Ay,List.getD,h]
    rw[this];exact C0 h hy
   rw[f182.l0,BS h,BM h,zT,NJ h]
   simp only[Bc,zA,CP,kE h,gE h,nE h,lE h,Wh n (Ay es i) (hx _ (Dg h)) hn,Aw,hb,Qn h' (Ay es i),hset,Ad (show i<9223372036854775807 by omega)]
   exact ih (i+1) m ys hy (by omega) (by omega)
theorem YK (n:Nat) (es:List As) (hx:∀ e∈es,e.nums.length≤1048576) (hl:es.length≤1048576) (hn:1048576<n):f182 (n+3) es.length (AD es)=some (es.length,AD es):=by
 have e:=Xn n es hx hl hn es.length 0 (n+2) (List.replicate es.length ⟨0,0,[]⟩) (by simp) (by omega) (by omega)
 rw[take_zero,drop_zero,nil_append] at e
 have e:f182.l0 (n+2) (n+2) es.length (AD es) es.length (AD (List.replicate es.length ⟨0,0,[]⟩)) 0=_:=e
 rw[f182,decide_eq_true (show (0:Int)≤(es.length:Int)∧(es.length:Int)≤2147483648 by omega),Mo]
 simp only[CP,e,Aw]
theorem Wu (n:Nat) (e:As) (hx:e.nums.length≤1048576) (hn:1048576<n):f197 (n+3) e.kind e.len e.nums.length (Bw .f32 e.nums) e.kind e.len e.nums.length (Bw .f32 e.nums)=some true:=by
 rw[f197,Q6 n e.nums (by omega) (by omega)]
 simp only[bne_self_eq_false,BU,Aw,Bool.not_true]
theorem XJ (n:Nat) (es:List As) (hx:∀ e∈es,e.nums.length≤1048576) (hl:es.length≤1048576) (hn:1048576<n):∀ (j i m:Nat),i+j=es.length→j<m →
  f184.l0 (n+3) m es.length (AD es) es.length (AD es) (i:Int)=some (Sum.inr ()):=by
 intro j
 induction j with
 | zero =>
   intro i m hi hm
   obtain ⟨m,rfl⟩:=zc m (by omega)
   rw[f184.l0,A2 (by omega)];rfl
 | succ j ih =>
   intro i m hi hm
   obtain ⟨m,rfl⟩:=zc m (by omega)
   have h:i<es.length:=by omega
   rw[f184.l0,BS h,BM h,zT,NJ h]
   simp only[Bc,zA,CP,kE h,gE h,nE h,lE h,Wu n (Ay es i) (hx _ (Dg h)) hn,Aw,Bool.not_true,BU,Ad (show i<9223372036854775807 by omega)]
   exact ih (i+1) m (by omega) (by omega)
theorem X3 (n:Nat) (es:List As) (hx:∀ e∈es,e.nums.length≤1048576) (hl:es.length≤1048576) (hn:1048576<n):f184 (n+4) es.length (AD es) es.length (AD es)=some true:=by
 have e:=XJ n es hx hl hn es.length 0 (n+3) (by omega) (by omega)
 have e:f184.l0 (n+3) (n+3) es.length (AD es) es.length (AD es) 0=_:=e
 rw[f184]
 simp only[bne_self_eq_false,BU,e,Aw,L2]
theorem YU (n:Nat) (hn:1048576<n):∀ (zs p:List As) (s:Int) (m:Nat),(∀ e∈zs,e.nums.length≤1048576)→0≤s→s+2 * (zs.length:Int)+(Ga zs:Int)≤1099511627776→p.length+zs.length≤1048576→zs.length<m →
  f157.l0 (n+1) m (p++zs).length (AD (p++zs)) s (p.length:Int)=some ((p++zs).length,AD (p++AV s zs),s+2 * (zs.length:Int)+(Ga zs:Int)):=by
 intro zs
 induction zs with
 | nil =>
   intro p s m _ _ _ _ hm
   obtain ⟨m,rfl⟩:=zc m (by simp at hm;omega)
   rw[f157.l0,JZ]
   simp[br,AV,Ga]
 | cons z zs ih =>
   intro p s m hx h0 h1 hp hm
   obtain ⟨m,rfl⟩:=zc m (by simp at hm;omega)
   simp only[Ga,length_cons] at h1
   have hz:=hx z (by simp)
   have h:p.length<(p++z::zs).length:=by simp
   have hat:Ay (p++z::zs) p.length=z:=by simp[Ay,List.getD]
   have hlen:∀ y,(p++y::zs).length=(p++z::zs).length:=fun y=>by simp
   have hb:∀ (y:As) (c:Nat),c<3→Nat.ble (p.length * 3+c+1) (AD (p++y::zs)).length=true:=fun y c hc=>by
    rw[DB];apply GE;simp;omega
   have st:∀ (y z':As) (c:Nat) (v:T),c<3→CZ z'=(CZ y).set c v→AT (AD (p++y::zs)) (p.length * 3+c) [v]=AD (p++z'::zs):=fun y z' c v hc hy=>by
    rw[Gt]
    have:=CC DN ⟨5,0,[]⟩ (p++y::zs) p.length c v z' (by simp) hc (by simpa [List.getD] using hy)
    unfold AD
    rw[this];simp
   have w1:IntKind.i64.wrap (s+1)=s+1:=by rw[A9] <;>omega
   have w2:IntKind.i64.wrap (s+1+1)=s+2:=by rw[A9] <;>omega
   have e0:=st z ⟨s,z.len,z.nums⟩ 0 (.int .i64 s) (by decide) rfl
   have e1:=st ⟨s,z.len,z.nums⟩ ⟨s,s+1,z.nums⟩ 1 (.int .i64 (s+1)) (by decide) rfl
   have e2:=st ⟨s,s+1,z.nums⟩ ⟨s,s+1,Af .f32 (s+2) z.nums.length⟩ 2 (.lst z.nums.length (Bw .f32 (Af .f32 (s+2) z.nums.length))) (by decide) (by simp[CZ,BI])
   have h2:p.length<(p++(⟨s,s+1,z.nums⟩:As)::zs).length:=by simp
   have hat2:Ay (p++(⟨s,s+1,z.nums⟩:As)::zs) p.length=⟨s,s+1,z.nums⟩:=by simp[Ay,List.getD]
   have g3:(AD (p++(⟨s,s+1,z.nums⟩:As)::zs))[p.length * 3+2]?=some (.lst z.nums.length (Bw .f32 z.nums)):=by
    rw[Dw (c:=2) (by decide) _ _ h2,hat2];rfl
   have g4:Ag [.lst] (AD (p++(⟨s,s+1,z.nums⟩:As)::zs)) (p.length * 3+2)=true:=by simp[Ag,g3,MO]
   have g5:EF (AD (p++(⟨s,s+1,z.nums⟩:As)::zs)) (p.length * 3+2)=z.nums.length:=by unfold EF;rw[g3]
   have g6:EN (AD (p++(⟨s,s+1,z.nums⟩:As)::zs)) (p.length * 3+2)=Bw .f32 z.nums:=by unfold EN;rw[g3]
   have e3:=Sj n z.nums (by omega) (s+2) (by omega) (by omega) (by omega)
   have step:=ih (p++[⟨s,s+1,Af .f32 (s+2) z.nums.length⟩]) (s+2+(z.nums.length:Int)) m (fun e he=>hx e (by simp[he])) (by omega) (by omega) (by simp at hp ⊢;omega) (by simp at hm;omega)
   rw[f157.l0,Jl,Jn,En,F4 (z:=z) (show p.length<4611686018427387904 by simp at hp;omega)]
   simp only[Bc,CP,hb z 0 (by decide),e0,w1,hb _ 1 (by decide),e1,w2,g4,zA,g5,g6,e3,Aw,e2]
   have q1:(p++[(⟨s,s+1,Af .f32 (s+2) z.nums.length⟩:As)])++zs=p++⟨s,s+1,Af .f32 (s+2) z.nums.length⟩::zs:=by simp
   have q2:(p++[(⟨s,s+1,Af .f32 (s+2) z.nums.length⟩:As)])++AV (s+2+(z.nums.length:Int)) zs=p++AV s (z::zs):=by simp[AV]
   rw[q1,q2,hlen] at step
   have q3:(p++[(⟨s,s+1,Af .f32 (s+2) z.nums.length⟩:As)]).length=(p++[z]).length:=by simp
   rw[q3] at step
   rw[step]
   congr 3
   simp only[Ga,length_cons];omega
theorem Wo (n:Nat) (es:List As) (hx:∀ e∈es,e.nums.length≤1048576) (hl:es.length≤1048576) (s:Int) (h0:0≤s) (h1:s+2 * (es.length:Int)+(Ga es:Int)≤1099511627776) (hn:1048576<n) :
  f157 (n+2) es.length (AD es) s=some (s+2 * (es.length:Int)+(Ga es:Int),es.length,AD (AV s es)):=by
 have e:=YU n hn es [] s (n+1) hx h0 h1 (by simpa using hl) (by omega)
 have e:f157.l0 (n+1) (n+1) es.length (AD es) s 0=some (es.length,AD (AV s es),s+2 * (es.length:Int)+(Ga es:Int)):=e
 rw[f157,e];rfl
theorem XD (n:Nat) (e:As) (hx:e.nums.length≤9223372036854775807) (left:Int) (h0:0≤left) (h1:left≤1048576):f150 (n+2) e.kind e.len e.nums.length (Bw .f32 e.nums) left=some (CB left e.nums.length):=by
 rw[f150,W6 n e.nums hx left h0 h1]
 simp only[Aw,DF h0]
 by_cases h:(e.nums.length:Int)≤left
 ·rw[decide_eq_true h];rfl
 ·rw[decide_eq_false h];unfold CB;rw[if_neg h];rfl
theorem XH (n:Nat) (es:List As) (hx:∀ e∈es,e.nums.length≤9223372036854775807) (hl:es.length≤1048576):∀ (j i m:Nat) (left:Int),0≤left→left≤1048576→i+j=es.length→j<m →
  f109.l0 (n+2) m es.length (AD es) left (i:Int)=some (if (Ga (es.drop i):Int)≤left then Sum.inr (left - (Ga (es.drop i):Int)) else Sum.inl (-1)):=by
 intro j
 induction j with
 | zero =>
   intro i m left h0 h1 hi hm
   obtain ⟨m,rfl⟩:=zc m (by omega)
   rw[f109.l0,A2 (by omega),drop_eq_nil_of_le (by omega)]
   simp[br,Ga,h0]
 | succ j ih =>
   intro i m left h0 h1 hi hm
   obtain ⟨m,rfl⟩:=zc m (by omega)
   have h:i<es.length:=by omega
   have e1:=XD n (Ay es i) (hx _ (Dg h)) left h0 h1
   rw[f109.l0,BS h,BM h,zT,NJ h,D6 h,Ga]
   simp only[Bc,zA,CP,kE h,gE h,nE h,lE h,e1,Aw,DF h0,Ad (show i<9223372036854775807 by omega)]
   by_cases hc:((Ay es i).nums.length:Int)≤left
   ·rw[decide_eq_true hc]
    simp only[Bool.not_true,BU]
    have hL:CB left (Ay es i).nums.length=left - ((Ay es i).nums.length:Int):=by unfold CB;rw[if_pos hc]
    rw[hL,ih (i+1) m _ (by omega) (by omega) (by omega) (by omega)]
    congr 1
    by_cases h2:(Ga (es.drop (i+1)):Int)≤left - ((Ay es i).nums.length:Int)
    ·rw[if_pos h2,if_pos (by omega)];congr 1;omega
    ·rw[if_neg h2,if_neg (by omega)]
   ·rw[decide_eq_false hc,if_neg (by omega)];rfl
theorem X5 (n:Nat) (es:List As) (hx:∀ e∈es,e.nums.length≤9223372036854775807) (hx2:es.length≤9223372036854775807) (left:Int) (h0:0≤left) (h1:left≤1048576) (hn:1048577<n) :
  f109 (n+3) es.length (AD es) left=some (CB left (Hp es)):=by
 rw[f109,show IntKind.i64.wrap (left - (es.length:Int))=left - (es.length:Int) by rw[A9] <;>omega,NZ]
 unfold CB
 by_cases h:(es.length:Int)≤left
 ·have e:=XH n es hx (by omega) es.length 0 (n+2) (left - (es.length:Int)) (by omega) (by omega) (by omega) (by omega)
  have e:f109.l0 (n+2) (n+2) es.length (AD es) (left - (es.length:Int)) 0=_:=e
  rw[decide_eq_false (by omega),e,drop_zero]
  by_cases h2:(Ga es:Int)≤left - (es.length:Int)
  ·rw[if_pos h2,if_pos (by omega)]
   simp only[BU,Aw,L2]
   congr 1;omega
  ·rw[if_neg h2,if_neg (by omega)];rfl
 ·rw[decide_eq_true (by omega),if_neg (by omega)];rfl
theorem YG (n:Nat) (e:As) (hx:e.nums.length≤1048576) (hn:1048576<n):f152 (n+2) e.kind e.len e.nums.length (Bw .f32 e.nums)=some (e.kind,e.len,e.nums.length,Bw .f32 e.nums):=by
 rw[f152,SS n e.nums hx (by omega)];rfl
theorem XZ (n:Nat) (es:List As) (hx:∀ e∈es,e.nums.length≤1048576) (hl:es.length≤1048576) (hn:1048576<n):∀ (j i m:Nat) (ys:List As),ys.length=es.length→i+j=es.length→j<m →
  f111.l0 (n+2) m es.length (AD es) es.length (AD (es.take i++ys.drop i)) (i:Int)=some (es.length,AD es):=by
 intro j
 induction j with
 | zero =>
   intro i m ys hy hi hm
   obtain ⟨m,rfl⟩:=zc m (by omega)
   rw[f111.l0,A2 (by omega),take_of_length_le (by omega),drop_eq_nil_of_le (by omega),append_nil];rfl
 | succ j ih =>
   intro i m ys hy hi hm
   obtain ⟨m,rfl⟩:=zc m (by omega)
   have h:i<es.length:=by omega
   have hlen:(es.take i++ys.drop i).length=es.length:=by rw[length_append,length_take,length_drop];omega
   have h':i<(es.take i++ys.drop i).length:=by omega
   have hb:Nat.ble (i * 3+0+3) (AD (es.take i++ys.drop i)).length=true:=by rw[DB,hlen];exact GE (by omega)
   have hset:(es.take i++ys.drop i).set i (Ay es i)=es.take (i+1)++ys.drop (i+1):=by
    have:Ay es i=es[i]:=by simp[Ay,List.getD,h]
    rw[this];exact C0 h hy
   rw[f111.l0,BS h,BM h,zT,NJ h]
   simp only[Bc,zA,CP,kE h,gE h,nE h,lE h,YG n (Ay es i) (hx _ (Dg h)) hn,Aw,hb,Qn h' (Ay es i),hset,Ad (show i<9223372036854775807 by omega)]
   exact ih (i+1) m ys hy (by omega) (by omega)
theorem XM (n:Nat) (es:List As) (hx:∀ e∈es,e.nums.length≤1048576) (hl:es.length≤1048576) (hn:1048576<n):f111 (n+3) es.length (AD es)=some (es.length,AD es):=by
 have e:=XZ n es hx hl hn es.length 0 (n+2) (List.replicate es.length ⟨0,0,[]⟩) (by simp) (by omega) (by omega)
 rw[take_zero,drop_zero,nil_append] at e
 have e:f111.l0 (n+2) (n+2) es.length (AD es) es.length (AD (List.replicate es.length ⟨0,0,[]⟩)) 0=_:=e
 rw[f111,decide_eq_true (show (0:Int)≤(es.length:Int)∧(es.length:Int)≤2147483648 by omega),Mo]
 simp only[CP,e,Aw]
theorem Wl (n:Nat) (e:As) (hx:e.nums.length≤1048576) (hn:1048576<n):f154 (n+3) e.kind e.len e.nums.length (Bw .f32 e.nums) e.kind e.len e.nums.length (Bw .f32 e.nums)=some true:=by
 rw[f154,Q6 n e.nums (by omega) (by omega)]
 simp only[bne_self_eq_false,BU,Aw,Bool.not_true]
theorem W5 (n:Nat) (es:List As) (hx:∀ e∈es,e.nums.length≤1048576) (hl:es.length≤1048576) (hn:1048576<n):∀ (j i m:Nat),i+j=es.length→j<m →
  f113.l0 (n+3) m es.length (AD es) es.length (AD es) (i:Int)=some (Sum.inr ()):=by
 intro j
 induction j with
 | zero =>
   intro i m hi hm
   obtain ⟨m,rfl⟩:=zc m (by omega)
   rw[f113.l0,A2 (by omega)];rfl
 | succ j ih =>
   intro i m hi hm
   obtain ⟨m,rfl⟩:=zc m (by omega)
   have h:i<es.length:=by omega
   rw[f113.l0,BS h,BM h,zT,NJ h]
   simp only[Bc,zA,CP,kE h,gE h,nE h,lE h,Wl n (Ay es i) (hx _ (Dg h)) hn,Aw,Bool.not_true,BU,Ad (show i<9223372036854775807 by omega)]
   exact ih (i+1) m (by omega) (by omega)
theorem Xp (n:Nat) (es:List As) (hx:∀ e∈es,e.nums.length≤1048576) (hl:es.length≤1048576) (hn:1048576<n):f113 (n+4) es.length (AD es) es.length (AD es)=some true:=by
 have e:=W5 n es hx hl hn es.length 0 (n+3) (by omega) (by omega)
 have e:f113.l0 (n+3) (n+3) es.length (AD es) es.length (AD es) 0=_:=e
 rw[f113]
 simp only[bne_self_eq_false,BU,e,Aw,L2]
theorem Xx (n:Nat) (hn:1048576<n):∀ (zs p:List As) (s:Int) (m:Nat),(∀ e∈zs,e.nums.length≤1048576)→0≤s→s+2 * (zs.length:Int)+(Ga zs:Int)≤1099511627776→p.length+zs.length≤1048576→zs.length<m →
  f115.l0 (n+1) m (p++zs).length (AD (p++zs)) s (p.length:Int)=some ((p++zs).length,AD (p++AV s zs),s+2 * (zs.length:Int)+(Ga zs:Int)):=by
 intro zs
 induction zs with
 | nil =>
   intro p s m _ _ _ _ hm
   obtain ⟨m,rfl⟩:=zc m (by simp at hm;omega)
   rw[f115.l0,JZ]
   simp[br,AV,Ga]
 | cons z zs ih =>
   intro p s m hx h0 h1 hp hm
   obtain ⟨m,rfl⟩:=zc m (by simp at hm;omega)
   simp only[Ga,length_cons] at h1
   have hz:=hx z (by simp)
   have h:p.length<(p++z::zs).length:=by simp
   have hat:Ay (p++z::zs) p.length=z:=by simp[Ay,List.getD]
   have hlen:∀ y,(p++y::zs).length=(p++z::zs).length:=fun y=>by simp
   have hb:∀ (y:As) (c:Nat),c<3→Nat.ble (p.length * 3+c+1) (AD (p++y::zs)).length=true:=fun y c hc=>by
    rw[DB];apply GE;simp;omega
   have st:∀ (y z':As) (c:Nat) (v:T),c<3→CZ z'=(CZ y).set c v→AT (AD (p++y::zs)) (p.length * 3+c) [v]=AD (p++z'::zs):=fun y z' c v hc hy=>by
    rw[Gt]
    have:=CC DN ⟨5,0,[]⟩ (p++y::zs) p.length c v z' (by simp) hc (by simpa [List.getD] using hy)
    unfold AD
    rw[this];simp
   have w1:IntKind.i64.wrap (s+1)=s+1:=by rw[A9] <;>omega
   have w2:IntKind.i64.wrap (s+1+1)=s+2:=by rw[A9] <;>omega
   have e0:=st z ⟨s,z.len,z.nums⟩ 0 (.int .i64 s) (by decide) rfl
   have e1:=st ⟨s,z.len,z.nums⟩ ⟨s,s+1,z.nums⟩ 1 (.int .i64 (s+1)) (by decide) rfl
   have e2:=st ⟨s,s+1,z.nums⟩ ⟨s,s+1,Af .f32 (s+2) z.nums.length⟩ 2 (.lst z.nums.length (Bw .f32 (Af .f32 (s+2) z.nums.length))) (by decide) (by simp[CZ,BI])
   have h2:p.length<(p++(⟨s,s+1,z.nums⟩:As)::zs).length:=by simp
   have hat2:Ay (p++(⟨s,s+1,z.nums⟩:As)::zs) p.length=⟨s,s+1,z.nums⟩:=by simp[Ay,List.getD]
   have g3:(AD (p++(⟨s,s+1,z.nums⟩:As)::zs))[p.length * 3+2]?=some (.lst z.nums.length (Bw .f32 z.nums)):=by
    rw[Dw (c:=2) (by decide) _ _ h2,hat2];rfl
   have g4:Ag [.lst] (AD (p++(⟨s,s+1,z.nums⟩:As)::zs)) (p.length * 3+2)=true:=by simp[Ag,g3,MO]
   have g5:EF (AD (p++(⟨s,s+1,z.nums⟩:As)::zs)) (p.length * 3+2)=z.nums.length:=by unfold EF;rw[g3]
   have g6:EN (AD (p++(⟨s,s+1,z.nums⟩:As)::zs)) (p.length * 3+2)=Bw .f32 z.nums:=by unfold EN;rw[g3]
   have e3:=Sj n z.nums (by omega) (s+2) (by omega) (by omega) (by omega)
   have step:=ih (p++[⟨s,s+1,Af .f32 (s+2) z.nums.length⟩]) (s+2+(z.nums.length:Int)) m (fun e he=>hx e (by simp[he])) (by omega) (by omega) (by simp at hp ⊢;omega) (by simp at hm;omega)
   rw[f115.l0,Jl,Jn,En,F4 (z:=z) (show p.length<4611686018427387904 by simp at hp;omega)]
   simp only[Bc,CP,hb z 0 (by decide),e0,w1,hb _ 1 (by decide),e1,w2,g4,zA,g5,g6,e3,Aw,e2]
   have q1:(p++[(⟨s,s+1,Af .f32 (s+2) z.nums.length⟩:As)])++zs=p++⟨s,s+1,Af .f32 (s+2) z.nums.length⟩::zs:=by simp
   have q2:(p++[(⟨s,s+1,Af .f32 (s+2) z.nums.length⟩:As)])++AV (s+2+(z.nums.length:Int)) zs=p++AV s (z::zs):=by simp[AV]
   rw[q1,q2,hlen] at step
   have q3:(p++[(⟨s,s+1,Af .f32 (s+2) z.nums.length⟩:As)]).length=(p++[z]).length:=by simp
   rw[q3] at step
   rw[step]
   congr 3
   simp only[Ga,length_cons];omega
theorem X9 (n:Nat) (es:List As) (hx:∀ e∈es,e.nums.length≤1048576) (hl:es.length≤1048576) (s:Int) (h0:0≤s) (h1:s+2 * (es.length:Int)+(Ga es:Int)≤1099511627776) (hn:1048576<n) :
  f115 (n+2) es.length (AD es) s=some (s+2 * (es.length:Int)+(Ga es:Int),es.length,AD (AV s es)):=by
 have e:=Xx n hn es [] s (n+1) hx h0 h1 (by simpa using hl) (by omega)
 have e:f115.l0 (n+1) (n+1) es.length (AD es) s 0=some (es.length,AD (AV s es),s+2 * (es.length:Int)+(Ga es:Int)):=e
 rw[f115,e];rfl
structure U2 (cl:List As) (ss:List Ao):Prop where
 c:Hp cl≤1048576
 s:HX ss≤1048576
structure WW (cl:List As) (ss:List Ao):Prop where
 c:cl.length≤9223372036854775807
 cn:∀ e∈cl,e.nums.length≤9223372036854775807
 s:ss.length≤9223372036854775807
 se:∀ s∈ss,s.es.length≤9223372036854775807∧∀ e∈s.es,e.nums.length≤9223372036854775807
theorem Vz (n:Nat) (s:Ao) (hx:s.es.length≤9223372036854775807∧∀ e∈s.es,e.nums.length≤9223372036854775807) (left:Int) (h0:0≤left) (h1:left≤1048576) (hn:1048577<n) :
  f151 (n+4) s.es.length (AD s.es) s.tn s.pan s.mute s.solo left=some (CB left (Hp s.es)):=by
 rw[f151,Wx n s.es hx.2 hx.1 left h0 h1 hn]
 simp only[Aw,DF h0]
 by_cases h:(Hp s.es:Int)≤left
 ·rw[decide_eq_true h];rfl
 ·rw[decide_eq_false h];unfold CB;rw[if_neg h];rfl
theorem Vh (n:Nat) (hn:1048577<n) (ss:List Ao) (hx:∀ s∈ss,s.es.length≤9223372036854775807∧∀ e∈s.es,e.nums.length≤9223372036854775807) (hl:ss.length≤1048576):∀ (j i m:Nat) (left:Int),0≤left→left≤1048576→i+j=ss.length→j<m →
  f110.l0 (n+4) m ss.length (AF ss) left (i:Int)=some (if (N6 (ss.drop i):Int)≤left then Sum.inr (left - (N6 (ss.drop i):Int)) else Sum.inl (-1)):=by
 intro j
 induction j with
 | zero =>
   intro i m left h0 h1 hi hm
   obtain ⟨m,rfl⟩:=zc m (by omega)
   rw[f110.l0,A2 (by omega),drop_eq_nil_of_le (by omega)]
   simp[br,N6,h0]
 | succ j ih =>
   intro i m left h0 h1 hi hm
   obtain ⟨m,rfl⟩:=zc m (by omega)
   have h:i<ss.length:=by omega
   have e1:=Vz n (A3 ss i) (hx _ (Gn h)) left h0 h1 hn
   rw[f110.l0,BS h,BM h,zT,OW h,Kb h,N6]
   simp only[Bc,zA,CP,U3 h,Uv h,Ux h,U9 h,WH h,VY h,e1,Aw,DF h0,Ad (show i<9223372036854775807 by omega)]
   by_cases hc:(Hp (A3 ss i).es:Int)≤left
   ·rw[decide_eq_true hc]
    simp only[Bool.not_true,BU]
    have hL:CB left (Hp (A3 ss i).es)=left - (Hp (A3 ss i).es:Int):=by unfold CB;rw[if_pos hc]
    rw[hL,ih (i+1) m _ (by omega) (by omega) (by omega) (by omega)]
    congr 1
    by_cases h2:(N6 (ss.drop (i+1)):Int)≤left - (Hp (A3 ss i).es:Int)
    ·rw[if_pos h2,if_pos (by omega)];congr 1;omega
    ·rw[if_neg h2,if_neg (by omega)]
   ·rw[decide_eq_false hc,if_neg (by omega)];rfl
theorem VH (n:Nat) (ss:List Ao) (hx:∀ s∈ss,s.es.length≤9223372036854775807∧∀ e∈s.es,e.nums.length≤9223372036854775807) (hx2:ss.length≤9223372036854775807) (left:Int) (h0:0≤left) (h1:left≤1048576) (hn:1048577<n) :
  f110 (n+5) ss.length (AF ss) left=some (CB left (HX ss)):=by
 rw[f110,show IntKind.i64.wrap (left - (ss.length:Int))=left - (ss.length:Int) by rw[A9] <;>omega,Qs]
 unfold CB
 by_cases h:(ss.length:Int)≤left
 ·have e:=Vh n hn ss hx (by omega) ss.length 0 (n+4) (left - (ss.length:Int)) (by omega) (by omega) (by omega) (by omega)
  have e:f110.l0 (n+4) (n+4) ss.length (AF ss) (left - (ss.length:Int)) 0=_:=e
  rw[decide_eq_false (by omega),e,drop_zero]
  by_cases h2:(N6 ss:Int)≤left - (ss.length:Int)
  ·rw[if_pos h2,if_pos (by omega)]
   simp only[BU,Aw,L2]
   congr 1;omega
  ·rw[if_neg h2,if_neg (by omega)];rfl
 ·rw[decide_eq_true (by omega),if_neg (by omega)];rfl
theorem Tz (n:Nat) (cl:List As) (ss:List Ao) (h:WW cl ss) (hn:1048577<n) :
  (∃ r:Int,0≤r∧f55 (n+6) cl.length (AD cl) ss.length (AF ss) 1048576=some r∧U2 cl ss)∨f55 (n+6) cl.length (AD cl) ss.length (AF ss) 1048576=some (-1):=by
 rw[f55,X5 (n+2) cl h.cn h.c 1048576 (by omega) (by omega) (by omega)]
 simp only[Aw,DF (show (0:Int)≤1048576 by omega)]
 by_cases h1:(Hp cl:Int)≤1048576
 ·rw[decide_eq_true h1]
  have hL:CB 1048576 (Hp cl)=1048576 - (Hp cl:Int):=by unfold CB;rw[if_pos h1]
  simp only[Bool.not_true,BU,hL,VH n ss h.se h.s (1048576 - (Hp cl:Int)) (by omega) (by omega) hn,Aw,DF (show (0:Int)≤1048576 - (Hp cl:Int) by omega)]
  by_cases h2:(HX ss:Int)≤1048576 - (Hp cl:Int)
  ·rw[decide_eq_true h2]
   refine .inl ⟨1048576 - (Hp cl:Int) - (HX ss:Int),by omega,?_,⟨by omega,by omega⟩⟩
   unfold CB;rw[if_pos h2];rfl
  ·rw[decide_eq_false h2];exact .inr rfl
 ·rw[decide_eq_false h1];exact .inr rfl
theorem Ia {cl:List As} {ss:List Ao} (h:U2 cl ss):cl.length≤1048576∧∀ e∈cl,e.nums.length≤1048576 :=
 ⟨Nat.le_trans (ND cl) h.c,fun e he=>Nat.le_trans (Nm cl e he) h.c⟩
theorem J4 {cl:List As} {ss:List Ao} (h:U2 cl ss):ss.length≤1048576∧∀ s∈ss,s.es.length≤1048576∧∀ e∈s.es,e.nums.length≤1048576 :=
 ⟨Nat.le_trans (Or ss) h.s,fun s hs=>by
   have h1:=Nat.le_trans (RA ss s hs) h.s
   exact ⟨Nat.le_trans (ND _) h1,fun e he=>Nat.le_trans (Nm _ e he) h1⟩⟩
theorem V8 (n:Nat) (s:Ao) (hx:s.es.length≤1048576∧∀ e∈s.es,e.nums.length≤1048576) (hn:1048576<n):f153 (n+4) s.es.length (AD s.es) s.tn s.pan s.mute s.solo=some (s.es.length,AD s.es,s.tn,s.pan,s.mute,s.solo):=by
 rw[f153,YK n s.es hx.2 hx.1 hn];rfl
theorem Vn (n:Nat) (ss:List Ao) (hx:∀ s∈ss,s.es.length≤1048576∧∀ e∈s.es,e.nums.length≤1048576) (hl:ss.length≤1048576) (hn:1048576<n):∀ (j i m:Nat) (ys:List Ao),ys.length=ss.length→i+j=ss.length→j<m →
  f112.l0 (n+4) m ss.length (AF ss) ss.length (AF (ss.take i++ys.drop i)) (i:Int)=some (ss.length,AF ss):=by
 intro j
 induction j with
 | zero =>
   intro i m ys hy hi hm
   obtain ⟨m,rfl⟩:=zc m (by omega)
   rw[f112.l0,A2 (by omega),take_of_length_le (by omega),drop_eq_nil_of_le (by omega),append_nil];rfl
 | succ j ih =>
   intro i m ys hy hi hm
   obtain ⟨m,rfl⟩:=zc m (by omega)
   have h:i<ss.length:=by omega
   have hlen:(ss.take i++ys.drop i).length=ss.length:=by rw[length_append,length_take,length_drop];omega
   have h':i<(ss.take i++ys.drop i).length:=by omega
   have hb:Nat.ble (i * 5+0+5) (AF (ss.take i++ys.drop i)).length=true:=by rw[Ic,hlen];exact GE (by omega)
   have hset:(ss.take i++ys.drop i).set i (A3 ss i)=ss.take (i+1)++ys.drop (i+1):=by
    have:A3 ss i=ss[i]:=by simp[A3,List.getD,h]
    rw[this];exact C0 h hy
   rw[f112.l0,BS h,BM h,zT,OW h]
   simp only[Bc,zA,CP,U3 h,Uv h,Ux h,U9 h,WH h,VY h,V8 n (A3 ss i) (hx _ (Gn h)) hn,Aw,hb,WC h' (A3 ss i),hset,Ad (show i<9223372036854775807 by omega)]
   exact ih (i+1) m ys hy (by omega) (by omega)
theorem VS (n:Nat) (ss:List Ao) (hx:∀ s∈ss,s.es.length≤1048576∧∀ e∈s.es,e.nums.length≤1048576) (hl:ss.length≤1048576) (hn:1048576<n):f112 (n+5) ss.length (AF ss)=some (ss.length,AF ss):=by
 have e:=Vn n ss hx hl hn ss.length 0 (n+4) (List.replicate ss.length ⟨[],0,0,false,false⟩) (by simp) (by omega) (by omega)
 rw[take_zero,drop_zero,nil_append] at e
 have e:f112.l0 (n+4) (n+4) ss.length (AF ss) ss.length (AF (List.replicate ss.length ⟨[],0,0,false,false⟩)) 0=_:=e
 rw[f112,decide_eq_true (show (0:Int)≤(ss.length:Int)∧(ss.length:Int)≤2147483648 by omega),QU]
 simp only[CP,e,Aw]
theorem UL (n:Nat) (cl:List As) (ss:List Ao) (h:U2 cl ss) (hn:1048576<n):f56 (n+6) cl.length (AD cl) ss.length (AF ss)=some (cl.length,AD cl,ss.length,AF ss):=by
 rw[f56,XM (n+2) cl (Ia h).2 (Ia h).1 (by omega)]
 simp only[Aw,VS n ss (J4 h).2 (J4 h).1 hn]
theorem VG (n:Nat) (s:Ao) (hx:s.es.length≤1048576∧∀ e∈s.es,e.nums.length≤1048576) (hn:1048576<n) :
  f155 (n+5) s.es.length (AD s.es) s.tn s.pan s.mute s.solo s.es.length (AD s.es) s.tn s.pan s.mute s.solo=some true:=by
 rw[f155,X3 n s.es hx.2 hx.1 hn,He]
 simp only[Aw,Bool.not_true,BU,bne_self_eq_false,Mi,beq_self_eq_true]
theorem VX (n:Nat) (ss:List Ao) (hx:∀ s∈ss,s.es.length≤1048576∧∀ e∈s.es,e.nums.length≤1048576) (hl:ss.length≤1048576) (hn:1048576<n):∀ (j i m:Nat),i+j=ss.length→j<m →
  f114.l0 (n+5) m ss.length (AF ss) ss.length (AF ss) (i:Int)=some (Sum.inr ()):=by
 intro j
 induction j with
 | zero =>
   intro i m hi hm
   obtain ⟨m,rfl⟩:=zc m (by omega)
   rw[f114.l0,A2 (by omega)];rfl
 | succ j ih =>
   intro i m hi hm
   obtain ⟨m,rfl⟩:=zc m (by omega)
   have h:i<ss.length:=by omega
   rw[f114.l0,BS h,BM h,zT,OW h]
   simp only[Bc,zA,CP,U3 h,Uv h,Ux h,U9 h,WH h,VY h,VG n (A3 ss i) (hx _ (Gn h)) hn,Aw,Bool.not_true,BU,Ad (show i<9223372036854775807 by omega)]
   exact ih (i+1) m (by omega) (by omega)
theorem Vt (n:Nat) (ss:List Ao) (hx:∀ s∈ss,s.es.length≤1048576∧∀ e∈s.es,e.nums.length≤1048576) (hl:ss.length≤1048576) (hn:1048576<n):f114 (n+6) ss.length (AF ss) ss.length (AF ss)=some true:=by
 have e:=VX n ss hx hl hn ss.length 0 (n+5) (by omega) (by omega)
 have e:f114.l0 (n+5) (n+5) ss.length (AF ss) ss.length (AF ss) 0=_:=e
 rw[f114]
 simp only[bne_self_eq_false,BU,e,Aw,L2]
theorem Q9 (n:Nat) (cl:List As) (ss:List Ao) (h:U2 cl ss) (hn:1048576<n):f57 (n+7) cl.length (AD cl) ss.length (AF ss) cl.length (AD cl) ss.length (AF ss)=some true:=by
 rw[f57,Xp (n+2) cl (Ia h).2 (Ia h).1 (by omega)]
 simp only[Aw,Bool.not_true,BU,Vt n ss (J4 h).2 (J4 h).1 hn]
def FJ (es:List As):Int:=2 * (es.length:Int)+(Ga es:Int)
def BE:Int→List Ao→List Ao
 | _,[]=>[]
 | s,t::ts=>⟨AV s t.es,s+FJ t.es,FloatKind.f32.nearest (s+FJ t.es+1),Int.tmod (s+FJ t.es+2) 3==0,Int.tmod (s+FJ t.es+3) 3==0⟩::BE (s+FJ t.es+4) ts
def EK:List Ao→Int
 | []=>0
 | t::ts=>FJ t.es+4+EK ts
theorem B6 (es:List As):0≤FJ es:=by unfold FJ;omega
theorem Cb:∀ (ss:List Ao),0≤EK ss
 | []=>Int.le_refl _
 | t::ts=>by have:=Cb ts;have:=B6 t.es;simp only[EK];omega
theorem Pw (es:List As):FJ es≤2 * (Hp es:Int):=by unfold FJ;rw[NZ];omega
theorem OD:∀ (ss:List Ao),EK ss≤4 * (HX ss:Int)
 | []=>by simp[EK,HX]
 | t::ts=>by have:=OD ts;have:=Pw t.es;simp only[EK,HX];omega
theorem VO (n:Nat) (hn:1048576<n):∀ (zs p:List Ao) (s:Int) (m:Nat),(∀ t∈zs,t.es.length≤1048576∧∀ e∈t.es,e.nums.length≤1048576)→0≤s→s+EK zs≤1099511627776→p.length+zs.length≤1048576→zs.length<m →
  f116.l0 (n+2) m (p++zs).length (AF (p++zs)) s (p.length:Int)=some ((p++zs).length,AF (p++BE s zs),s+EK zs):=by
 intro zs
 induction zs with
 | nil =>
   intro p s m _ _ _ _ hm
   obtain ⟨m,rfl⟩:=zc m (by simp at hm;omega)
   rw[f116.l0,JZ]
   simp[br,BE,EK]
 | cons z zs ih =>
   intro p s m hx h0 h1 hp hm
   obtain ⟨m,rfl⟩:=zc m (by simp at hm;omega)
   have hz:=hx z (by simp)
   have hmk:=B6 z.es
   have hmk2:=Cb zs
   simp only[EK] at h1
   have h:p.length<(p++z::zs).length:=by simp
   have hlen:∀ y,(p++y::zs).length=(p++z::zs).length:=fun y=>by simp
   have hb:∀ (y:Ao) (c:Nat),c<5→Nat.ble (p.length * 5+c+1) (AF (p++y::zs)).length=true:=fun y c hc=>by
    rw[Ic];apply GE;simp;omega
   have st:∀ (y z':Ao) (c:Nat) (v:T),c<5→PG z'=(PG y).set c v→AT (AF (p++y::zs)) (p.length * 5+c) [v]=AF (p++z'::zs):=fun y z' c v hc hy=>by
    rw[Gt]
    have:=CC C5 ⟨[],0,0,false,false⟩ (p++y::zs) p.length c v z' (by simp) hc (by simpa [List.getD] using hy)
    unfold AF
    rw[this];simp
   generalize hK:FJ z.es=K at *
   have w1:IntKind.i64.wrap (s+K+1)=s+K+1:=by rw[A9] <;>omega
   have w2:IntKind.i64.wrap (s+K+1+1)=s+K+2:=by rw[A9] <;>omega
   have w3:IntKind.i64.wrap (s+K+2+1)=s+K+3:=by rw[A9] <;>omega
   have w4:IntKind.i64.wrap (s+K+3+1)=s+K+4:=by rw[A9] <;>omega
   have em:=Wo n z.es hz.2 hz.1 s h0 (by unfold FJ at hK;omega) hn
   have hK':s+2 * (z.es.length:Int)+(Ga z.es:Int)=s+K:=by rw[← hK];unfold FJ;omega
   rw[hK'] at em
   have e0:=st z ⟨AV s z.es,z.tn,z.pan,z.mute,z.solo⟩ 0 (.lst z.es.length (AD (AV s z.es))) (by decide) (by simp[PG,Cw])
   have e1:=st ⟨AV s z.es,z.tn,z.pan,z.mute,z.solo⟩ ⟨AV s z.es,s+K,z.pan,z.mute,z.solo⟩ 1 (.int .i64 (s+K)) (by decide) rfl
   have e2:=st ⟨AV s z.es,s+K,z.pan,z.mute,z.solo⟩ ⟨AV s z.es,s+K,FloatKind.f32.nearest (s+K+1),z.mute,z.solo⟩ 2 (.flt .f32 (FloatKind.f32.nearest (s+K+1))) (by decide) rfl
   have e3:=st ⟨AV s z.es,s+K,FloatKind.f32.nearest (s+K+1),z.mute,z.solo⟩ ⟨AV s z.es,s+K,FloatKind.f32.nearest (s+K+1),Int.tmod (s+K+2) 3==0,z.solo⟩ 3 (.bool (Int.tmod (s+K+2) 3==0)) (by decide) rfl
   have e4:=st ⟨AV s z.es,s+K,FloatKind.f32.nearest (s+K+1),Int.tmod (s+K+2) 3==0,z.solo⟩ ⟨AV s z.es,s+K,FloatKind.f32.nearest (s+K+1),Int.tmod (s+K+2) 3==0,Int.tmod (s+K+3) 3==0⟩ 4 (.bool (Int.tmod (s+K+3) 3==0)) (by decide) rfl
   have hat:A3 (p++z::zs) p.length=z:=by simp[A3,List.getD]
   have g3:(AF (p++z::zs))[p.length * 5+0]?=some (.lst z.es.length (AD z.es)):=by
    rw[Dq (c:=0) (by decide) _ _ h,hat];rfl
   have g4:Ag [.lst] (AF (p++z::zs)) (p.length * 5+0)=true:=by simp only[Ag,g3,MO,zA]
   have g5:EF (AF (p++z::zs)) (p.length * 5+0)=z.es.length:=by unfold EF;rw[g3]
   have g6:EN (AF (p++z::zs)) (p.length * 5+0)=AD z.es:=by unfold EN;rw[g3]
   have step:=ih (p++[⟨AV s z.es,s+K,FloatKind.f32.nearest (s+K+1),Int.tmod (s+K+2) 3==0,Int.tmod (s+K+3) 3==0⟩]) (s+K+4) m (fun t ht=>hx t (by simp[ht])) (by omega) (by omega) (by simp at hp ⊢;omega) (by simp at hm;omega)
   rw[f116.l0,Jl,Jn,En,F4 (z:=z) (show p.length<4611686018427387904 by simp at hp;omega)]
   simp only[Bc,CP,g4,zA,g5,g6,em,Aw,e0,hb _ 1 (by decide),e1,w1,hb _ 2 (by decide),e2,w2,hb _ 3 (by decide),e3,w3,hb _ 4 (by decide),e4,w4]
   have q1:(p++[(⟨AV s z.es,s+K,FloatKind.f32.nearest (s+K+1),Int.tmod (s+K+2) 3==0,Int.tmod (s+K+3) 3==0⟩:Ao)])++zs=p++⟨AV s z.es,s+K,FloatKind.f32.nearest (s+K+1),Int.tmod (s+K+2) 3==0,Int.tmod (s+K+3) 3==0⟩::zs:=by simp
   have q2:(p++[(⟨AV s z.es,s+K,FloatKind.f32.nearest (s+K+1),Int.tmod (s+K+2) 3==0,Int.tmod (s+K+3) 3==0⟩:Ao)])++BE (s+K+4) zs=p++BE s (z::zs):=by simp[BE,hK]
   have q3:(p++[(⟨AV s z.es,s+K,FloatKind.f32.nearest (s+K+1),Int.tmod (s+K+2) 3==0,Int.tmod (s+K+3) 3==0⟩:Ao)]).length=(p++[z]).length:=by simp
   rw[q1,q2,q3,hlen] at step
   rw[step]
   congr 3
   simp only[EK,hK];omega
theorem Vg (n:Nat) (ss:List Ao) (hx:∀ s∈ss,s.es.length≤1048576∧∀ e∈s.es,e.nums.length≤1048576) (hl:ss.length≤1048576) (s:Int) (h0:0≤s) (h1:s+EK ss≤1099511627776) (hn:1048576<n) :
  f116 (n+3) ss.length (AF ss) s=some (s+EK ss,ss.length,AF (BE s ss)):=by
 have e:=VO n hn ss [] s (n+2) hx h0 h1 (by simpa using hl) (by omega)
 have e:f116.l0 (n+2) (n+2) ss.length (AF ss) s 0=some (ss.length,AF (BE s ss),s+EK ss):=e
 rw[f116,e];rfl
theorem Qt (n:Nat) (cl:List As) (ss:List Ao) (h:U2 cl ss) (hn:1048576<n):f58 (n+4) cl.length (AD cl) ss.length (AF ss) 1=some (1+FJ cl+EK ss,cl.length,AD (AV 1 cl),ss.length,AF (BE (1+FJ cl) ss)):=by
 have b1:=Pw cl
 have b2:=OD ss
 have b3:=B6 cl
 have b4:=Cb ss
 have hc:=h.c
 have hs:=h.s
 have e1:=X9 (n+1) cl (Ia h).2 (Ia h).1 1 (by omega) (by unfold FJ at b1;omega) (by omega)
 have e2:=Vg n ss (J4 h).2 (J4 h).1 (1+FJ cl) (by omega) (by omega) hn
 have hq:(1:Int)+2 * (cl.length:Int)+(Ga cl:Int)=1+FJ cl:=by unfold FJ;omega
 rw[hq] at e1
 rw[f58,e1]
 simp only[Aw,e2]
theorem Wv (n:Nat) (hn:1048576<n):∀ (zs p:List As) (s:Int) (m:Nat),(∀ e∈zs,e.nums.length≤1048576)→0≤s→s+FJ zs≤1099511627776→p.length+zs.length≤1048576→zs.length<m →
  f159.l0 (n+1) m (p++AV s zs).length (AD (p++AV s zs)) s (p.length:Int)=some (.inr (s+FJ zs)):=by
 intro zs
 induction zs with
 | nil =>
   intro p s m _ _ _ _ hm
   obtain ⟨m,rfl⟩:=zc m (by omega)
   rw[f159.l0,show AV s []=[] from rfl,JZ]
   simp[br,FJ,Ga]
 | cons z zs ih =>
   intro p s m hx h0 h1 hp hm
   obtain ⟨m,rfl⟩:=zc m (by omega)
   have hz:=hx z (by simp)
   have hk:FJ (z::zs)=2+(z.nums.length:Int)+FJ zs:=by simp only[FJ,Ga,length_cons];omega
   have hk0:=B6 zs
   rw[hk] at h1 ⊢
   have hm1:AV s (z::zs)=⟨s,s+1,Af .f32 (s+2) z.nums.length⟩::AV (s+2+(z.nums.length:Int)) zs:=rfl
   rw[hm1]
   generalize hQ:AV (s+2+(z.nums.length:Int)) zs=Q
   have h:p.length<(p++(⟨s,s+1,Af .f32 (s+2) z.nums.length⟩:As)::Q).length:=by simp
   have hat:Ay (p++(⟨s,s+1,Af .f32 (s+2) z.nums.length⟩:As)::Q) p.length=⟨s,s+1,Af .f32 (s+2) z.nums.length⟩:=by simp[Ay,List.getD]
   have w1:IntKind.i64.wrap (s+1)=s+1:=by rw[A9] <;>omega
   have w2:IntKind.i64.wrap (s+1+1)=s+2:=by rw[A9] <;>omega
   have e3:=SL n z.nums.length (by omega) (s+2) (by omega) (by omega) (by omega)
   have step:=ih (p++[⟨s,s+1,Af .f32 (s+2) z.nums.length⟩]) (s+2+(z.nums.length:Int)) m (fun e he=>hx e (by simp[he])) (by omega) (by omega) (by simp at hp ⊢;omega) (by simp at hm;omega)
   rw[hQ] at step
   have q1:(p++[(⟨s,s+1,Af .f32 (s+2) z.nums.length⟩:As)])++Q=p++⟨s,s+1,Af .f32 (s+2) z.nums.length⟩::Q:=by simp
   rw[q1] at step
   rw[f159.l0,Jl,Jn,En,F4 (z:=(⟨s,s+1,Af .f32 (s+2) z.nums.length⟩:As)) (show p.length<4611686018427387904 by simp at hp;omega),NJ h]
   simp only[Bc,zA,CP,kE h,gE h,nE h,lE h,hat,BI,bne_self_eq_false,BU,w1,w2,e3,Aw,decide_eq_false (show ¬ (s+2+(z.nums.length:Int)<0) by omega)]
   rw[step]
   congr 2;omega
theorem Ww (n:Nat) (es:List As) (hx:∀ e∈es,e.nums.length≤1048576) (hl:es.length≤1048576) (s:Int) (h0:0≤s) (h1:s+FJ es≤1099511627776) (hn:1048576<n) :
  f159 (n+2) es.length (AD (AV s es)) s=some (s+FJ es):=by
 have e:=Wv n hn es [] s (n+1) hx h0 h1 (by simpa using hl) (by omega)
 simp only[nil_append,Cw] at e
 have e:f159.l0 (n+1) (n+1) es.length (AD (AV s es)) s 0=_:=e
 rw[f159,e];rfl
theorem Xu (n:Nat) (hn:1048576<n):∀ (zs p:List As) (s:Int) (m:Nat),(∀ e∈zs,e.nums.length≤1048576)→0≤s→s+FJ zs≤1099511627776→p.length+zs.length≤1048576→zs.length<m →
  f117.l0 (n+1) m (p++AV s zs).length (AD (p++AV s zs)) s (p.length:Int)=some (.inr (s+FJ zs)):=by
 intro zs
 induction zs with
 | nil =>
   intro p s m _ _ _ _ hm
   obtain ⟨m,rfl⟩:=zc m (by omega)
   rw[f117.l0,show AV s []=[] from rfl,JZ]
   simp[br,FJ,Ga]
 | cons z zs ih =>
   intro p s m hx h0 h1 hp hm
   obtain ⟨m,rfl⟩:=zc m (by omega)
   have hz:=hx z (by simp)
   have hk:FJ (z::zs)=2+(z.nums.length:Int)+FJ zs:=by simp only[FJ,Ga,length_cons];omega
   have hk0:=B6 zs
   rw[hk] at h1 ⊢
   have hm1:AV s (z::zs)=⟨s,s+1,Af .f32 (s+2) z.nums.length⟩::AV (s+2+(z.nums.length:Int)) zs:=rfl
   rw[hm1]
   generalize hQ:AV (s+2+(z.nums.length:Int)) zs=Q
   have h:p.length<(p++(⟨s,s+1,Af .f32 (s+2) z.nums.length⟩:As)::Q).length:=by simp
   have hat:Ay (p++(⟨s,s+1,Af .f32 (s+2) z.nums.length⟩:As)::Q) p.length=⟨s,s+1,Af .f32 (s+2) z.nums.length⟩:=by simp[Ay,List.getD]
   have w1:IntKind.i64.wrap (s+1)=s+1:=by rw[A9] <;>omega
   have w2:IntKind.i64.wrap (s+1+1)=s+2:=by rw[A9] <;>omega
   have e3:=SL n z.nums.length (by omega) (s+2) (by omega) (by omega) (by omega)
   have step:=ih (p++[⟨s,s+1,Af .f32 (s+2) z.nums.length⟩]) (s+2+(z.nums.length:Int)) m (fun e he=>hx e (by simp[he])) (by omega) (by omega) (by simp at hp ⊢;omega) (by simp at hm;omega)
   rw[hQ] at step
   have q1:(p++[(⟨s,s+1,Af .f32 (s+2) z.nums.length⟩:As)])++Q=p++⟨s,s+1,Af .f32 (s+2) z.nums.length⟩::Q:=by simp
   rw[q1] at step
   rw[f117.l0,Jl,Jn,En,F4 (z:=(⟨s,s+1,Af .f32 (s+2) z.nums.length⟩:As)) (show p.length<4611686018427387904 by simp at hp;omega),NJ h]
   simp only[Bc,zA,CP,kE h,gE h,nE h,lE h,hat,BI,bne_self_eq_false,BU,w1,w2,e3,Aw,decide_eq_false (show ¬ (s+2+(z.nums.length:Int)<0) by omega)]
   rw[step]
   congr 2;omega
theorem Xs (n:Nat) (es:List As) (hx:∀ e∈es,e.nums.length≤1048576) (hl:es.length≤1048576) (s:Int) (h0:0≤s) (h1:s+FJ es≤1099511627776) (hn:1048576<n) :
  f117 (n+2) es.length (AD (AV s es)) s=some (s+FJ es):=by
 have e:=Xu n hn es [] s (n+1) hx h0 h1 (by simpa using hl) (by omega)
 simp only[nil_append,Cw] at e
 have e:f117.l0 (n+1) (n+1) es.length (AD (AV s es)) s 0=_:=e
 rw[f117,e];rfl
theorem Gk:∀ (ss:List Ao) (s:Int),(BE s ss).length=ss.length
 | [],_=>rfl
 | t::ts,s=>by simp[BE,Gk ts]
theorem WV (n:Nat) (hn:1048576<n):∀ (zs p:List Ao) (s:Int) (m:Nat),(∀ t∈zs,t.es.length≤1048576∧∀ e∈t.es,e.nums.length≤1048576)→0≤s→s+EK zs≤1099511627776→p.length+zs.length≤1048576→zs.length<m →
  f118.l0 (n+2) m (p++BE s zs).length (AF (p++BE s zs)) s (p.length:Int)=some (.inr (s+EK zs)):=by
 intro zs
 induction zs with
 | nil =>
   intro p s m _ _ _ _ hm
   obtain ⟨m,rfl⟩:=zc m (by omega)
   rw[f118.l0,show BE s []=[] from rfl,JZ]
   simp[br,EK]
 | cons z zs ih =>
   intro p s m hx h0 h1 hp hm
   obtain ⟨m,rfl⟩:=zc m (by omega)
   have hz:=hx z (by simp)
   have hmk:=B6 z.es
   have hmk2:=Cb zs
   simp only[EK] at h1 ⊢
   have em:=Ww n z.es hz.2 hz.1 s h0 (by omega) hn
   generalize hK:FJ z.es=K at *
   obtain ⟨Y,hY⟩:∃ Y:Ao,Y=⟨AV s z.es,s+K,FloatKind.f32.nearest (s+K+1),Int.tmod (s+K+2) 3==0,Int.tmod (s+K+3) 3==0⟩:=⟨_,rfl⟩
   have hm1:BE s (z::zs)=Y::BE (s+K+4) zs:=by rw[hY,BE,hK]
   rw[hm1]
   generalize hQ:BE (s+K+4) zs=Q
   have h:p.length<(p++Y::Q).length:=by simp
   have hat:A3 (p++Y::Q) p.length=Y:=by simp[A3,List.getD]
   have w1:IntKind.i64.wrap (s+K+1)=s+K+1:=by rw[A9] <;>omega
   have w2:IntKind.i64.wrap (s+K+1+1)=s+K+2:=by rw[A9] <;>omega
   have w3:IntKind.i64.wrap (s+K+2+1)=s+K+3:=by rw[A9] <;>omega
   have w4:IntKind.i64.wrap (s+K+3+1)=s+K+4:=by rw[A9] <;>omega
   have y1:Y.es=AV s z.es:=by rw[hY]
   have y2:Y.tn=s+K:=by rw[hY]
   have y3:Y.pan=FloatKind.f32.nearest (s+K+1):=by rw[hY]
   have y4:Y.mute=(Int.tmod (s+K+2) 3==0):=by rw[hY]
   have y5:Y.solo=(Int.tmod (s+K+3) 3==0):=by rw[hY]
   have step:=ih (p++[Y]) (s+K+4) m (fun t ht=>hx t (by simp[ht])) (by omega) (by omega) (by simp at hp ⊢;omega) (by simp at hm;omega)
   rw[hQ] at step
   have q1:(p++[Y])++Q=p++Y::Q:=by simp
   rw[q1] at step
   rw[f118.l0,Jl,Jn,En,F4 (z:=Y) (show p.length<4611686018427387904 by simp at hp;omega),OW h]
   simp only[Bc,zA,CP,U3 h,Uv h,Ux h,U9 h,WH h,VY h,hat,y1,Cw,em,Aw,decide_eq_false (show ¬ (s+K<0) by omega),BU,y2,bne_self_eq_false,w1,y3,J3,w2,y4,beq_self_eq_true,Bool.not_true,w3,y5,w4]
   rw[step]
   congr 2;omega
theorem VW (n:Nat) (ss:List Ao) (hx:∀ s∈ss,s.es.length≤1048576∧∀ e∈s.es,e.nums.length≤1048576) (hl:ss.length≤1048576) (s:Int) (h0:0≤s) (h1:s+EK ss≤1099511627776) (hn:1048576<n) :
  f118 (n+3) ss.length (AF (BE s ss)) s=some (s+EK ss):=by
 have e:=WV n hn ss [] s (n+2) hx h0 h1 (by simpa using hl) (by omega)
 simp only[nil_append,Gk] at e
 have e:f118.l0 (n+2) (n+2) ss.length (AF (BE s ss)) s 0=_:=e
 rw[f118,e];rfl
theorem UD (n:Nat) (cl:List As) (ss:List Ao) (h:U2 cl ss) (hn:1048576<n):f59 (n+4) cl.length (AD (AV 1 cl)) ss.length (AF (BE (1+FJ cl) ss)) 1=some (1+FJ cl+EK ss):=by
 have b1:=Pw cl
 have b2:=OD ss
 have b3:=B6 cl
 have b4:=Cb ss
 have hc:=h.c
 have hs:=h.s
 have e1:=Xs (n+1) cl (Ia h).2 (Ia h).1 1 (by omega) (by omega) (by omega)
 have e2:=VW n ss (J4 h).2 (J4 h).1 (1+FJ cl) (by omega) (by omega) hn
 rw[f59,e1]
 simp only[Aw,e2,decide_eq_false (show ¬ (1+FJ cl<0) by omega),decide_eq_false (show ¬ (1+FJ cl+EK ss<0) by omega),BU]
section
variable {E:Aj} {tE tI tF tFs tEs tSt tCs tSs tS tC tB o1 o2 o3 o4 o5:Nat} {dE dI dF dFs dEs dSt dCs dSs dS dC dB:TD}
theorem Oc (hE:E.ty tE=some dE) (kE:dE.kd = .st [(o1,tI),(o2,tI),(o3,tFs)]) (hI:E.ty tI=some dI) (kI:dI.kd = .int .i64) (hFs:E.ty tFs=some dFs) (kFs:dFs.kd = .slc tF) (hF:E.ty tF=some dF) (kF:dF.kd = .flt .f32) :
  ∀ (n:Nat) (cs:List T),WTs E tE n cs→∃ es:List As,cs=AD es∧n=es.length∧∀ e∈es,O6 e∧e.nums.length≤maxLen:=by
 intro n
 induction n with
 | zero=>intro cs h;cases h;exact ⟨[],rfl,rfl,by simp⟩
 | succ n ih =>
   intro cs h
   cases h with
   | snoc h hc =>
     obtain ⟨es,rfl,rfl,hx⟩:=ih _ h
     have hf:=hc.st_inv hE kE
     cases hf with
     | cons h1 r1 =>
       cases r1 with
       | cons h2 r2 =>
         cases r2 with
         | cons h3 r3 =>
           cases r3
           obtain ⟨a,rfl,ga⟩:=h1.int_inv hI kI
           obtain ⟨b,rfl,gb⟩:=h2.int_inv hI kI
           obtain ⟨k,us,rfl,gl,hu⟩:=h3.slc_inv hFs kFs
           obtain ⟨xs,rfl,rfl,gx⟩:=hu.flts hF kF
           refine ⟨es++[⟨a,b,xs⟩],?_,by simp,fun e he => ?_⟩
           ·unfold AD
            rw[flatMap_append];rfl
           ·simp only[mem_append,mem_singleton] at he
            rcases he with he | rfl
            ·exact hx e he
            ·exact ⟨⟨ga,gb,fun x hx=>(gx x hx).w32⟩,gl⟩
theorem Ra (hSt:E.ty tSt=some dSt) (kSt:dSt.kd = .st [(o1,tEs),(o2,tI),(o3,tF),(o4,tB),(o5,tB)]) (hB:E.ty tB=some dB) (kB:dB.kd = .bool) (hEs:E.ty tEs=some dEs) (kEs:dEs.kd = .slc tE) {p1 p2 p3:Nat}
  (hE:E.ty tE=some dE) (kE:dE.kd = .st [(p1,tI),(p2,tI),(p3,tFs)]) (hI:E.ty tI=some dI) (kI:dI.kd = .int .i64) (hFs:E.ty tFs=some dFs) (kFs:dFs.kd = .slc tF) (hF:E.ty tF=some dF) (kF:dF.kd = .flt .f32) :
  ∀ (n:Nat) (cs:List T),WTs E tSt n cs→∃ ss:List Ao,cs=AF ss∧n=ss.length∧∀ s∈ss,((∀ e∈s.es,O6 e)∧K8 .i64 s.tn∧Ps s.pan)∧s.es.length≤maxLen∧∀ e∈s.es,e.nums.length≤maxLen:=by
 intro n
 induction n with
 | zero=>intro cs h;cases h;exact ⟨[],rfl,rfl,by simp⟩
 | succ n ih =>
   intro cs h
   cases h with
   | snoc h hc =>
     obtain ⟨ss,rfl,rfl,hx⟩:=ih _ h
     have hf:=hc.st_inv hSt kSt
     cases hf with
     | cons h1 r1 =>
       cases r1 with
       | cons h2 r2 =>
         cases r2 with
         | cons h3 r3 =>
           cases r3 with
           | cons h4 r4 =>
             cases r4 with
             | cons h5 r5 =>
               cases r5
               obtain ⟨k,us,rfl,gl,hu⟩:=h1.slc_inv hEs kEs
               obtain ⟨es,rfl,rfl,ge⟩:=Oc hE kE hI kI hFs kFs hF kF _ _ hu
               obtain ⟨a,rfl,ga⟩:=h2.int_inv hI kI
               obtain ⟨p,rfl,gp⟩:=h3.flt_inv hF kF
               obtain ⟨b,rfl⟩:=h4.bool_inv hB kB
               obtain ⟨c,rfl⟩:=h5.bool_inv hB kB
               refine ⟨ss++[⟨es,a,p,b,c⟩],?_,by simp,fun s hs => ?_⟩
               ·unfold AF
                rw[flatMap_append];rfl
               ·simp only[mem_append,mem_singleton] at hs
                rcases hs with hs | rfl
                ·exact hx s hs
                ·exact ⟨⟨fun e he=>(ge e he).1,ga,gp.w32⟩,gl,fun e he=>(ge e he).2⟩
theorem PR (hS:E.ty tS=some dS) {q1 q2:Nat} (kS:dS.kd = .st [(q1,tCs),(q2,tSs)]) (hCs:E.ty tCs=some dCs) (kCs:dCs.kd = .slc tC) (hC:E.ty tC=some dC) {r1 r2 r3:Nat} (kC:dC.kd = .st [(r1,tI),(r2,tI),(r3,tFs)])
  (hSs:E.ty tSs=some dSs) (kSs:dSs.kd = .slc tSt)
  (hSt:E.ty tSt=some dSt) (kSt:dSt.kd = .st [(o1,tEs),(o2,tI),(o3,tF),(o4,tB),(o5,tB)]) (hB:E.ty tB=some dB) (kB:dB.kd = .bool) (hEs:E.ty tEs=some dEs) (kEs:dEs.kd = .slc tE) {p1 p2 p3:Nat}
  (hE:E.ty tE=some dE) (kE:dE.kd = .st [(p1,tI),(p2,tI),(p3,tFs)]) (hI:E.ty tI=some dI) (kI:dI.kd = .int .i64) (hFs:E.ty tFs=some dFs) (kFs:dFs.kd = .slc tF) (hF:E.ty tF=some dF) (kF:dF.kd = .flt .f32) {ts:List T} (h:WT E tS ts) :
  ∃ (cl:List As) (ss:List Ao),ts=[.lst cl.length (AD cl),.lst ss.length (AF ss)]∧Pg cl ss∧WW cl ss:=by
 have hm:maxLen≤9223372036854775807:=by decide
 have hf:=h.st_inv hS kS
 cases hf with
 | cons h1 r1 =>
   cases r1 with
   | cons h2 r2 =>
     cases r2
     obtain ⟨k,us,rfl,gl,hu⟩:=h1.slc_inv hCs kCs
     obtain ⟨cl,rfl,rfl,gc⟩:=Oc hC kC hI kI hFs kFs hF kF _ _ hu
     obtain ⟨k2,us2,rfl,gl2,hu2⟩:=h2.slc_inv hSs kSs
     obtain ⟨ss,rfl,rfl,gs⟩:=Ra hSt kSt hB kB hEs kEs hE kE hI kI hFs kFs hF kF _ _ hu2
     exact ⟨cl,ss,rfl,⟨fun c hc=>(gc c hc).1,fun s hs=>(gs s hs).1⟩,⟨by omega,fun e he=>Nat.le_trans (gc e he).2 hm,by omega,fun s hs=>⟨Nat.le_trans (gs s hs).2.1 hm,fun e he=>Nat.le_trans ((gs s hs).2.2 e he) hm⟩⟩⟩
end
theorem JR (n:Nat) (N:Nat) (ts:List T) (cs:List As) (hl:cs.length≤100) (hx:∀ e∈cs,e.nums.length≤1000):∀ (j i m:Nat) (P:List As),i+j=cs.length→P.length≤i→j<m →
  f78.l0 (n+1) m N ts P.length (AD P) cs.length (AD cs) (cs.length:Int) (i:Int)=some ((P++cs.drop i).length,AD (P++cs.drop i)):=by
 intro j
 induction j with
 | zero =>
   intro i m P hi hP hm
   obtain ⟨m,rfl⟩:=zc m (by omega)
   rw[f78.l0,A2 (by omega),drop_eq_nil_of_le (by omega),append_nil];rfl
 | succ j ih =>
   intro i m P hi hP hm
   obtain ⟨m,rfl⟩:=zc m (by omega)
   have h:i<cs.length:=by omega
   have g:=QD n (Ay cs i).nums (by have:=hx _ (Dg h);omega)
   have hp:=Ib P (Ay cs i)
   unfold CZ at hp
   rw[f78.l0,BS h,BM h,zT,NJ h]
   simp only[Bc,zA,CP,kE h,gE h,nE h,lE h,g,Aw,HH (show P.length<2147483648 by omega),hp]
   rw[Fq (z:=Ay cs i),Ad (show i<9223372036854775807 by omega),ih (i+1) m _ (by omega) (by simp;omega) (by omega),D6 h]
   simp
theorem OV (n:Nat) (hn:200<n) (cs:List As) (hl:cs.length≤100) (hx:∀ e∈cs,e.nums.length≤1000):f78 (n+2) cs.length (AD cs)=some (cs.length,AD cs):=by
 have e:=JR n cs.length (AD cs) cs hl hx cs.length 0 (n+1) [] (by omega) (by simp) (by omega)
 simp only[drop_zero,nil_append] at e
 have e:f78.l0 (n+1) (n+1) cs.length (AD cs) 0 [] cs.length (AD cs) (cs.length:Int) 0=_:=e
 rw[f78,e];rfl
theorem Q4 (acc:List Ao) (s:Ao):AF acc++AT (reps 1 [(T.lst 0 []),(T.int .i64 (0:Int)),(T.flt .f32 0),(T.bool false),(T.bool false)]) 0 (PG s)=AF (acc++[s]):=by
 unfold AF
 rw[flatMap_append,List.flatMap_singleton];rfl
theorem V2 (n:Nat) (N1:Nat) (t1:List T) (N3:Nat) (t3:List T) (N5:Nat) (t5:List T) (N7:Nat) (t7:List T) (N11:Nat) (t11:List T) (cs:List As) (hl:cs.length≤100) (hx:∀ e∈cs,e.nums.length≤1000):∀ (j i m:Nat) (P:List As),i+j=cs.length→P.length≤i→j<m →
  f103.l0 (n+1) m N1 t1 N3 t3 N5 t5 N7 t7 P.length (AD P) N11 t11 cs.length (AD cs) (cs.length:Int) (i:Int)=some (N1,t1,N3,t3,N5,t5,N7,t7,(P++cs.drop i).length,AD (P++cs.drop i),N11,t11):=by
 intro j
 induction j with
 | zero =>
   intro i m P hi hP hm
   obtain ⟨m,rfl⟩:=zc m (by omega)
   rw[f103.l0,A2 (by omega),drop_eq_nil_of_le (by omega),append_nil];rfl
 | succ j ih =>
   intro i m P hi hP hm
   obtain ⟨m,rfl⟩:=zc m (by omega)
   have h:i<cs.length:=by omega
   have g:=QD n (Ay cs i).nums (by have:=hx _ (Dg h);omega)
   have hp:=Ib P (Ay cs i)
   unfold CZ at hp
   rw[f103.l0,BS h,BM h,zT,NJ h]
   simp only[Bc,zA,CP,kE h,gE h,nE h,lE h,g,Aw,HH (show P.length<2147483648 by omega),hp]
   rw[Fq (z:=Ay cs i),Ad (show i<9223372036854775807 by omega),ih (i+1) m _ (by omega) (by simp;omega) (by omega),D6 h]
   simp
theorem Wa (n:Nat) (hn:200<n) (N1:Nat) (t1:List T) (N3:Nat) (t3:List T) (N5:Nat) (t5:List T) (N7:Nat) (t7:List T) (N9:Nat) (t9:List T) (ss:List Ao) (hl:ss.length≤100) (hx:∀ s∈ss,s.es.length≤100∧∀ e∈s.es,e.nums.length≤1000):∀ (j i m:Nat) (P:List Ao),i+j=ss.length→P.length≤i→j<m →
  f103.l1 (n+2) m N1 t1 N3 t3 N5 t5 N7 t7 N9 t9 P.length (AF P) ss.length (AF ss) (ss.length:Int) (i:Int)=some (N5,t5,N7,t7,N9,t9,(P++ss.drop i).length,AF (P++ss.drop i)):=by
 intro j
 induction j with
 | zero =>
   intro i m P hi hP hm
   obtain ⟨m,rfl⟩:=zc m (by omega)
   rw[f103.l1,A2 (by omega),drop_eq_nil_of_le (by omega),append_nil];rfl
 | succ j ih =>
   intro i m P hi hP hm
   obtain ⟨m,rfl⟩:=zc m (by omega)
   have h:i<ss.length:=by omega
   have hs:=hx _ (Gn h)
   have g:=OV n hn (A3 ss i).es hs.1 hs.2
   have hp:=Q4 P (A3 ss i)
   unfold PG at hp
   rw[f103.l1,BS h,BM h,zT,OW h]
   simp only[Bc,zA,CP,U3 h,Uv h,Ux h,U9 h,WH h,VY h,g,Aw,HH (show P.length<2147483648 by omega),hp]
   rw[Fq (z:=A3 ss i),Ad (show i<9223372036854775807 by omega),ih (i+1) m _ (by omega) (by simp;omega) (by omega),Kb h]
   simp
theorem X1 (n:Nat) (hn:200<n) (cs:List As) (ss:List Ao) (hl:cs.length≤100) (hx:∀ e∈cs,e.nums.length≤1000) (hl2:ss.length≤100) (hx2:∀ s∈ss,s.es.length≤100∧∀ e∈s.es,e.nums.length≤1000) :
  f103 (n+3) cs.length (AD cs) ss.length (AF ss)=some (cs.length,AD cs,ss.length,AF ss):=by
 have e0:=V2 (n+1) cs.length (AD cs) ss.length (AF ss) 0 [] 0 [] 0 [] cs hl hx cs.length 0 (n+2) [] (by omega) (by simp) (by omega)
 have e0:f103.l0 (n+2) (n+2) cs.length (AD cs) ss.length (AF ss) 0 [] 0 [] 0 [] 0 [] cs.length (AD cs) (cs.length:Int) 0=_:=e0
 have e1:=Wa n hn cs.length (AD cs) ss.length (AF ss) 0 [] 0 [] cs.length (AD cs) ss hl2 hx2 ss.length 0 (n+2) [] (by omega) (by simp) (by omega)
 have e1:f103.l1 (n+2) (n+2) cs.length (AD cs) ss.length (AF ss) 0 [] 0 [] cs.length (AD cs) 0 [] ss.length (AF ss) (ss.length:Int) 0=_:=e1
 simp only[drop_zero,nil_append] at e0 e1
 rw[f103,e0]
 simp only[Aw,e1]
theorem P3 (n:Nat) (xs:List Nat) (h:xs.length≤2147483648):f119 (n+1) xs.length (Bw .f32 xs)=some (xs.length,Bw .f32 xs):=by
 rw[f119,Nat.zero_add,GE h];rfl
theorem UC (n:Nat) (e:As) (h:e.nums.length≤2147483648):f108 (n+2) e.kind e.len e.nums.length (Bw .f32 e.nums)=some (e.kind,e.len,e.nums.length,Bw .f32 e.nums):=by
 rw[f108,P3 n e.nums h];rfl
theorem M7 (n:Nat) (cs:List As) (hl:cs.length≤100) (hx:∀ e∈cs,e.nums.length≤1000):∀ (j i m:Nat) (P:List As),i+j=cs.length→P.length≤i→j<m →
  f149.l0 (n+1) m cs.length (AD cs) P.length (AD P) (cs.length:Int) (i:Int)=some ((P++cs.drop i).length,AD (P++cs.drop i)):=by
 intro j
 induction j with
 | zero =>
   intro i m P hi hP hm
   obtain ⟨m,rfl⟩:=zc m (by omega)
   rw[f149.l0,A2 (by omega),drop_eq_nil_of_le (by omega),append_nil];rfl
 | succ j ih =>
   intro i m P hi hP hm
   obtain ⟨m,rfl⟩:=zc m (by omega)
   have h:i<cs.length:=by omega
   have g:=P3 n (Ay cs i).nums (by have:=hx _ (Dg h);omega)
   have hp:=Ib P (Ay cs i)
   unfold CZ at hp
   rw[f149.l0,BS h,BM h,zT,NJ h]
   simp only[Bc,zA,CP,kE h,gE h,nE h,lE h,g,Aw,HH (show P.length<2147483648 by omega),hp]
   rw[Fq (z:=Ay cs i),Ad (show i<9223372036854775807 by omega),ih (i+1) m _ (by omega) (by simp;omega) (by omega),D6 h]
   simp
theorem Uq (n:Nat) (hn:200<n) (cs:List As) (hl:cs.length≤100) (hx:∀ e∈cs,e.nums.length≤1000):f149 (n+2) cs.length (AD cs)=some (cs.length,AD cs):=by
 have e:=M7 n cs hl hx cs.length 0 (n+1) [] (by omega) (by simp) (by omega)
 simp only[drop_zero,nil_append] at e
 have e:f149.l0 (n+1) (n+1) cs.length (AD cs) 0 (reps 0 [(T.int .i64 (0:Int)),(T.int .i64 (0:Int)),(T.lst 0 [])]) (cs.length:Int) 0=_:=e
 rw[f149,e];rfl
theorem V4 (n:Nat) (N3:Nat) (t3:List T) (N5:Nat) (t5:List T) (N7:Nat) (t7:List T) (N11:Nat) (t11:List T) (cs:List As) (hl:cs.length≤100) (hx:∀ e∈cs,e.nums.length≤1000):∀ (j i m:Nat) (P:List As),i+j=cs.length→P.length≤i→j<m →
  f107.l0 (n+2) m cs.length (AD cs) N3 t3 N5 t5 N7 t7 P.length (AD P) N11 t11 (cs.length:Int) (i:Int)=some (cs.length,AD cs,N3,t3,N5,t5,N7,t7,(P++cs.drop i).length,AD (P++cs.drop i),N11,t11):=by
 intro j
 induction j with
 | zero =>
   intro i m P hi hP hm
   obtain ⟨m,rfl⟩:=zc m (by omega)
   rw[f107.l0,A2 (by omega),drop_eq_nil_of_le (by omega),append_nil];rfl
 | succ j ih =>
   intro i m P hi hP hm
   obtain ⟨m,rfl⟩:=zc m (by omega)
   have h:i<cs.length:=by omega
   have g:=UC n (Ay cs i) (by have:=hx _ (Dg h);omega)
   have hp:=Ib P (Ay cs i)
   unfold CZ at hp
   rw[f107.l0,BS h,BM h,zT,NJ h]
   simp only[Bc,zA,CP,kE h,gE h,nE h,lE h,g,Aw,HH (show P.length<2147483648 by omega),hp]
   rw[Fq (z:=Ay cs i),Ad (show i<9223372036854775807 by omega),ih (i+1) m _ (by omega) (by simp;omega) (by omega),D6 h]
   simp
theorem WO (n:Nat) (hn:200<n) (N1:Nat) (t1:List T) (N5:Nat) (t5:List T) (N7:Nat) (t7:List T) (N9:Nat) (t9:List T) (ss:List Ao) (hl:ss.length≤100) (hx:∀ s∈ss,s.es.length≤100∧∀ e∈s.es,e.nums.length≤1000):∀ (j i m:Nat) (P:List Ao),i+j=ss.length→P.length≤i→j<m →
  f107.l1 (n+2) m N1 t1 ss.length (AF ss) N5 t5 N7 t7 N9 t9 P.length (AF P) (ss.length:Int) (i:Int)=some (N5,t5,N7,t7,N9,t9,(P++ss.drop i).length,AF (P++ss.drop i)):=by
 intro j
 induction j with
 | zero =>
   intro i m P hi hP hm
   obtain ⟨m,rfl⟩:=zc m (by omega)
   rw[f107.l1,A2 (by omega),drop_eq_nil_of_le (by omega),append_nil];rfl
 | succ j ih =>
   intro i m P hi hP hm
   obtain ⟨m,rfl⟩:=zc m (by omega)
   have h:i<ss.length:=by omega
   have hs:=hx _ (Gn h)
   have g:=Uq n hn (A3 ss i).es hs.1 hs.2
   have hp:=Q4 P (A3 ss i)
   unfold PG at hp
   rw[f107.l1,BS h,BM h,zT,OW h]
   simp only[Bc,zA,CP,U3 h,Uv h,Ux h,U9 h,WH h,VY h,g,Aw,HH (show P.length<2147483648 by omega),hp]
   rw[Fq (z:=A3 ss i),Ad (show i<9223372036854775807 by omega),ih (i+1) m _ (by omega) (by simp;omega) (by omega),Kb h]
   simp
theorem VQ (n:Nat) (hn:200<n) (cs:List As) (ss:List Ao) (hl:cs.length≤100) (hx:∀ e∈cs,e.nums.length≤1000) (hl2:ss.length≤100) (hx2:∀ s∈ss,s.es.length≤100∧∀ e∈s.es,e.nums.length≤1000) :
  f107 (n+3) cs.length (AD cs) ss.length (AF ss)=some (cs.length,AD cs,ss.length,AF ss):=by
 have e0:=V4 n ss.length (AF ss) 0 [] 0 [] 0 [] cs hl hx cs.length 0 (n+2) [] (by omega) (by simp) (by omega)
 have e0:f107.l0 (n+2) (n+2) cs.length (AD cs) ss.length (AF ss) 0 [] 0 [] 0 (reps 0 [(T.int .i64 (0:Int)),(T.int .i64 (0:Int)),(T.lst 0 [])]) 0 (reps 0 [(T.lst 0 []),(T.int .i64 (0:Int)),(T.flt .f32 0),(T.bool false),(T.bool false)]) (cs.length:Int) 0=_:=e0
 have e1:=WO n hn cs.length (AD cs) 0 [] 0 [] cs.length (AD cs) ss hl2 hx2 ss.length 0 (n+2) [] (by omega) (by simp) (by omega)
 have e1:f107.l1 (n+2) (n+2) cs.length (AD cs) ss.length (AF ss) 0 [] 0 [] cs.length (AD cs) 0 [] (ss.length:Int) 0=_:=e1
 simp only[drop_zero,nil_append] at e0 e1
 rw[f107,e0]
 simp only[Aw,e1]
theorem P2 (n:Nat) (hn:200<n) (C:List As) (S:List Ao):f104 (n+7) C.length (AD C) S.length (AF S)=some (if F0 C S=true then .inr (C.length,AD C,S.length,AF S,true,C.length,AD C,S.length,AF S) else .inl (0,[],0,[],false,C.length,AD C,S.length,AF S)):=by
 rw[f104,Qp n C S (by omega),Aw]
 cases F0 C S <;>rfl
theorem Q1:∀ (a:List As),(∀ e∈a,e.nums.length≤256)→Hp a≤257 * a.length
 | [],_=>by simp[Hp]
 | e::a,h=>by
   have:=Q1 a (fun x hx=>h x (by simp[hx]))
   have:=h e (by simp)
   simp only[Hp,length_cons];omega
theorem R1 (e:Ef):e.eff.nums.length≤10:=by cases e <;>simp[Ef.eff]
theorem I9 {cl:List As} {ss:List Ao} (hok:ZL cl ss) (hg:Pg cl ss):∀ s∈ss,s.es.length≤100∧∀ e∈s.es,e.nums.length≤1000:=by
 intro s hs
 obtain ⟨fs,g1,g2,g3⟩:=Rg hok hg hs
 refine ⟨by rw[← g1,J1];omega,fun e he => ?_⟩
 rw[← g1] at he
 obtain ⟨f,-,rfl⟩:=mem_map.1 he
 have:=R1 f;omega
def NV (e:As) (a:Nat):As:=⟨e.kind,e.len,e.nums.take a⟩
def UG (e:As) (a:Nat):As:=⟨e.kind,e.len+(a:Int),e.nums.drop a⟩
def CI (cl:List As) (i a:Nat):List As:=cl.take i++(NV (Ay cl i) a::UG (Ay cl i) a::cl.drop (i+1))
theorem LH (e:As):(CZ e).length=3:=rfl
theorem Lx (cs:List As) (i:Nat):(AD cs).take (i * 3)=AD (cs.take i):=by
 induction cs generalizing i with
 | nil=>simp[AD]
 | cons e cs ih =>
   cases i with
   | zero=>simp[AD]
   | succ i =>
     have e1:AD (e::cs)=CZ e++AD cs:=rfl
     have e2:AD ((e::cs).take (i+1))=CZ e++AD (cs.take i):=rfl
     rw[e1,e2,← ih,Nat.succ_mul,Nat.add_comm,← LH e,List.take_length_add_append]
theorem Ks (cs:List As) (i:Nat):(AD cs).drop (i * 3)=AD (cs.drop i):=by
 induction cs generalizing i with
 | nil=>simp[AD]
 | cons e cs ih =>
   cases i with
   | zero=>simp
   | succ i =>
     have e1:AD (e::cs)=CZ e++AD cs:=rfl
     rw[e1,Nat.succ_mul,Nat.add_comm,← LH e,List.drop_length_add_append]
     exact ih i
theorem Mz (a b:List As):AD (a++b)=AD a++AD b:=by simp[AD]
theorem MR {cl:List As} {i:Nat} (a:Nat) (h:i<cl.length):(CI cl i a).length=cl.length+1:=by
 simp[CI];omega
theorem Pe (cl:List As) (i a:Nat):AD (CI cl i a)=AD (cl.take i)++(CZ (NV (Ay cl i) a)++(CZ (UG (Ay cl i) a)++AD (cl.drop (i+1)))):=by
 unfold CI
 rw[Mz]
 rfl
theorem Rw (cs vs:List T) (k j:Nat) (h:j≤k):(AT cs k vs).take j=cs.take j:=by
 induction vs generalizing cs k with
 | nil=>rfl
 | cons v vs ih=>rw[AT,ih _ _ (by omega),List.take_set_of_le h]
theorem R2 (cs vs:List T) (k j:Nat) (h:k+vs.length≤j):(AT cs k vs).drop j=cs.drop j:=by
 induction vs generalizing cs k with
 | nil=>rfl
 | cons v vs ih =>
   simp only[length_cons] at h
   rw[AT,ih _ _ (by omega),List.drop_set_of_lt (by omega)]
theorem NB (el:List Pm) (l m:Nat) (cs:List T) (j:Nat) (h:j≤l * el.length) (hc:j≤cs.length):(Cm el l m cs).take j=cs.take j:=by
 unfold Cm
 rw[List.take_append_of_le_length (by rw[length_take];omega),List.take_take,Nat.min_eq_left h]
theorem RZ (vs:List T):∀ (cs:List T) (k:Nat),(AT cs k vs).length=cs.length:=by
 induction vs with
 | nil=>intro cs k;rfl
 | cons v vs ih=>intro cs k;rw[AT,ih,length_set]
theorem Mw:∀ (cl:List As) (i:Nat) (e:List Nat),i<cl.length→AT (AD cl) (i * 3+2) [.lst e.length (Bw .f32 e)]=AD (cl.set i ⟨(Ay cl i).kind,(Ay cl i).len,e⟩)
 | c::cl,0,e,_=>rfl
 | c::cl,i+1,e,h=>by
   have ih:=Mw cl i e (by simpa using h)
   have e1:AD (c::cl)=CZ c++AD cl:=rfl
   rw[e1,show (i+1) * 3+2=(CZ c).length+(i * 3+2) by rw[LH];omega]
   have e2:∀ (a b:List T) (k:Nat) (v:T),AT (a++b) (a.length+k) [v]=a++AT b k [v]:=fun a b k v=>by
    simp only[AT]
    rw[List.set_append_right _ _ (by omega),Nat.add_sub_cancel_left]
   rw[e2,ih]
   rfl
theorem Mn:∀ (cl:List As) (i:Nat) (e:As),i<cl.length→(cl.set i e).take (i+1)=cl.take i++[e]
 | c::cl,0,e,_=>by simp
 | c::cl,i+1,e,h=>by
   have ih:=Mn cl i e (by simpa using h)
   simp[ih]
theorem Pv (n:Nat) (hn:1200<n) (cl:List As) (ss:List Ao) (hg:Pg cl ss) (hl:cl.length≤1099511627776) (t k:Int) :
  ∃ (cl':List As) (ss':List Ao) (b:Bool),f60 (n+200) cl.length (AD cl) ss.length (AF ss) t k=some (cl'.length,AD cl',ss'.length,AF ss',b)∧f61 (n+200) cl.length (AD cl) ss.length (AF ss) t k=some (cl'.length,AD cl',ss'.length,AF ss',b) ∧
   ((b=false∧cl'=[]∧ss'=[])∨(b=true∧ss'=ss∧F0 cl ss=true∧F0 cl' ss=true∧∃ i a:Nat,t=(i:Int)∧k=(a:Int)∧i<cl.length∧1≤a∧a<(Ay cl i).nums.length∧cl'=CI cl i a)):=by
 have v1:=Qq (n+193) cl ss (by omega)
 have v1:f105 (n+199) cl.length (AD cl) ss.length (AF ss)=_:=v1
 have v2:=Qp (n+193) cl ss (by omega)
 have v2:f101 (n+199) cl.length (AD cl) ss.length (AF ss)=_:=v2
 have w:IntKind.i64.wrap ((cl.length:Int) - 1)=(cl.length:Int) - 1:=by rw[A9] <;>omega
 rw[f60,f61,v1,v2,w]
 simp only[Aw,SI,Rx,Qv (n+197) t cl.length (by omega)]
 by_cases h1:F0 cl ss=true
 case neg =>
  have h1:F0 cl ss=false:=by simpa using h1
  rw[h1];exact ⟨[],[],false,rfl,rfl,.inl ⟨rfl,rfl,rfl⟩⟩
 rw[h1]
 by_cases h2:0≤t∧t≤(cl.length:Int) - 1
 case neg=>rw[decide_eq_false h2];exact ⟨[],[],false,rfl,rfl,.inl ⟨rfl,rfl,rfl⟩⟩
 rw[decide_eq_true h2]
 have hok:=RB h1
 obtain ⟨i,rfl⟩:=Int.eq_ofNat_of_zero_le h2.1
 have hi:i<cl.length:=by omega
 have hcl:∀ e∈cl,e.nums.length≤256:=fun e he=>(hok.k e he).2.2
 have hc:=hok.k _ (Dg hi)
 have hc12:=hok.c
 have hs8:=hok.n
 have r1:decide ((0:Int)≤(i:Int)∧(i:Int)<((cl.length:Nat):Int))=true:=BM hi
 have w2:IntKind.i64.wrap (((Ay cl i).nums.length:Int) - 1)=((Ay cl i).nums.length:Int) - 1:=by rw[A9] <;>omega
 simp only[Bool.not_true,BU,Bc,Aw,r1,zT,NJ hi,zA,CP,nE hi,Qj (n+198),w2]
 by_cases h3:1≤k∧k≤((Ay cl i).nums.length:Int) - 1
 case neg=>rw[decide_eq_false h3];exact ⟨[],[],false,rfl,rfl,.inl ⟨rfl,rfl,rfl⟩⟩
 rw[decide_eq_true h3]
 obtain ⟨a,rfl⟩:=Int.eq_ofNat_of_zero_le (show 0≤k by omega)
 have ha:a<(Ay cl i).nums.length:=by omega
 have o1:=VQ (n+196) (by omega) cl ss (by omega) (fun e he=>by have:=hcl e he;omega) (by omega) (I9 hok hg)
 have o1:f107 (n+199) cl.length (AD cl) ss.length (AF ss)=_:=o1
 have o2:=X1 (n+196) (by omega) cl ss (by omega) (fun e he=>by have:=hcl e he;omega) (by omega) (I9 hok hg)
 have o2:f103 (n+199) cl.length (AD cl) ss.length (AF ss)=_:=o2
 have k1:∀ xs:List Nat,xs.length≤256→f119 (n+199) xs.length (Bw .f32 xs)=some (xs.length,Bw .f32 xs):=fun xs h=>P3 (n+198) xs (by omega)
 have k2:∀ xs:List Nat,xs.length≤256→f84 (n+199) xs.length (Bw .f32 xs)=some (xs.length,Bw .f32 xs):=fun xs h=>QD (n+198) xs (by omega)
 have lt:((Ay cl i).nums.take a).length=a:=by rw[length_take];omega
 have ld:((Ay cl i).nums.drop a).length=(Ay cl i).nums.length - a:=by rw[length_drop]
 have k1a:=k1 ((Ay cl i).nums.take a) (by omega)
 have k1b:=k1 ((Ay cl i).nums.drop a) (by omega)
 have k2a:=k2 ((Ay cl i).nums.take a) (by omega)
 have k2b:=k2 ((Ay cl i).nums.drop a) (by omega)
 rw[lt] at k1a k2a
 rw[ld] at k1b k2b
 have d1:decide ((0:Int)≤(0:Int)∧(0:Int)≤(a:Int)∧(a:Int)≤(((Ay cl i).nums.length:Nat):Int))=true:=decide_eq_true (by omega)
 have d2:decide ((0:Int)≤(a:Int)∧(a:Int)≤(((Ay cl i).nums.length:Nat):Int)∧(((Ay cl i).nums.length:Nat):Int)≤(((Ay cl i).nums.length:Nat):Int))=true:=decide_eq_true (by omega)
 have w3:IntKind.i64.wrap ((i:Int)+1)=((i+1:Nat):Int):=by rw[A9] <;>omega
 have w4:IntKind.i64.wrap ((Ay cl i).len+(a:Int))=(Ay cl i).len+(a:Int):=by rw[A9] <;>omega
 have d3:decide ((0:Int)≤((i+1:Nat):Int)∧((i+1:Nat):Int)≤((cl.length:Nat):Int)∧((cl.length:Nat):Int)≤((cl.length:Nat):Int))=true:=decide_eq_true (by omega)
 have d4:decide ((0:Int)≤(0:Int)∧(0:Int)≤(i:Int)∧(i:Int)≤((cl.length:Nat):Int))=true:=decide_eq_true (by omega)
 have tk:List.take a (List.drop 0 (Bw .f32 (Ay cl i).nums))=Bw .f32 ((Ay cl i).nums.take a):=by rw[drop_zero,PH]
 have tk2:List.take ((Ay cl i).nums.length - a) (List.drop a (Bw .f32 (Ay cl i).nums))=Bw .f32 ((Ay cl i).nums.drop a):=by
  rw[To,PH,take_of_length_le (by rw[length_drop];omega)]
 simp only[Bool.not_true,BU,o1,o2,Aw,r1,NJ hi,kE hi,gE hi,nE hi,lE hi,zA,CP,d1,d2,d4,Nat.sub_zero,tk,tk2,k1a,k1b,k2a,k2b,w3,w4,zT,d3,Nat.add_zero,Nat.zero_add]
 have okE0:Ag [.int .i64,.int .i64,.lst] (AD cl) (i * 3)=true:=NJ hi
 have kE0:DA (AD cl) (i * 3)=(Ay cl i).kind:=kE hi
 have le:=DB cl
 have e1:List.take (i * 3) (List.drop 0 (Cm [Pm.leaf,Pm.leaf,Pm.sl Fl.own [Pm.leaf]] (i+1) (cl.length - (i+1)) (AT (AD cl) (i * 3) [T.int IntKind.i64 (Ay cl i).kind,T.int IntKind.i64 (Ay cl i).len,T.nil])))=AD (cl.take i):=by
  rw[drop_zero,NB _ _ _ _ _ (by simp;omega) (by rw[RZ,le];omega),Rw _ _ _ _ (Nat.le_refl _),Lx]
 have e2:List.take ((cl.length - (i+1)) * 3) (List.drop ((i+1) * 3) (AT (AD cl) (i * 3) [T.int IntKind.i64 (Ay cl i).kind,T.int IntKind.i64 (Ay cl i).len,T.nil]))=AD (cl.drop (i+1)):=by
  rw[R2 _ _ _ _ (by simp;omega),Ks,take_of_length_le (by rw[DB,length_drop];omega)]
 have hlen:=MR a hi
 have e3:i+1+(1+(cl.length - (i+1)))=(CI cl i a).length:=by rw[hlen];omega
 have eL:AD (cl.take i)++[T.int IntKind.i64 (Ay cl i).kind,T.int IntKind.i64 (Ay cl i).len,T.lst a (Bw FloatKind.f32 (List.take a (Ay cl i).nums))] ++
   ([T.int IntKind.i64 (Ay cl i).kind,T.int IntKind.i64 ((Ay cl i).len+(a:Int)),T.lst ((Ay cl i).nums.length - a) (Bw FloatKind.f32 (List.drop a (Ay cl i).nums))]++AD (cl.drop (i+1)))=AD (CI cl i a):=by
  rw[Pe,append_assoc]
  have c1:CZ (NV (Ay cl i) a)=[T.int IntKind.i64 (Ay cl i).kind,T.int IntKind.i64 (Ay cl i).len,T.lst a (Bw FloatKind.f32 (List.take a (Ay cl i).nums))]:=by simp only[CZ,NV,lt]
  have c2:CZ (UG (Ay cl i) a)=[T.int IntKind.i64 (Ay cl i).kind,T.int IntKind.i64 ((Ay cl i).len+(a:Int)),T.lst ((Ay cl i).nums.length - a) (Bw FloatKind.f32 (List.drop a (Ay cl i).nums))]:=by simp only[CZ,UG,ld]
  rw[c1,c2]
 have s0:∀ x y z:T,AT (reps 1 [T.int IntKind.i64 0,T.int IntKind.i64 0,T.lst 0 []]) 0 [x,y,z]=[x,y,z]:=fun _ _ _=>rfl
 have s1:∀ x y z:T,AT (AT (AT [T.int IntKind.i64 0,T.int IntKind.i64 0,T.lst 0 []] 0 [x]) 1 [y]) 2 [z]=[x,y,z]:=fun _ _ _=>rfl
 have r0:reps 0 [T.int IntKind.i64 0,T.int IntKind.i64 0,T.lst 0 []]=[]:=rfl
 have hst:AT (AD cl) (i * 3+2) [T.lst a (Bw FloatKind.f32 (List.take a (Ay cl i).nums))]=AD (cl.set i (NV (Ay cl i) a)):=by
  have:=Mw cl i ((Ay cl i).nums.take a) hi
  rw[lt] at this
  exact this
 have xi:ET 3 (n+199) cl.length (AD (cl.set i (NV (Ay cl i) a))) ((i+1:Nat):Int) 1 [T.int IntKind.i64 (Ay cl i).kind,T.int IntKind.i64 ((Ay cl i).len+(a:Int)),T.lst ((Ay cl i).nums.length - a) (Bw FloatKind.f32 (List.drop a (Ay cl i).nums))] =
   some ((CI cl i a).length,AD (CI cl i a),cl.length,AD (cl.set i (NV (Ay cl i) a)),1,[T.int IntKind.i64 (Ay cl i).kind,T.int IntKind.i64 ((Ay cl i).len+(a:Int)),T.lst ((Ay cl i).nums.length - a) (Bw FloatKind.f32 (List.drop a (Ay cl i).nums))]):=by
  have hx:∀ (n k:Nat) (cs ds:List T) (i:Nat),i≤k→0<k→k<1000000→ET 3 (n+1) k cs (i:Int) 1 ds=some (k+1,cs.take (i * 3)++ds++cs.drop (i * 3),k,cs,1,ds):=fun n k cs ds i h1 h2 h3=>by
   unfold ET
   exact if_pos (by omega)
  rw[show n+199=n+198+1 from rfl,hx _ _ _ _ _ (by omega) (by omega) (by omega),Lx,Ks,Mn _ _ _ hi,List.drop_set_of_lt (by omega),hlen,← eL]
  have c1:AD (cl.take i++[NV (Ay cl i) a])=AD (cl.take i)++[T.int IntKind.i64 (Ay cl i).kind,T.int IntKind.i64 (Ay cl i).len,T.lst a (Bw FloatKind.f32 (List.take a (Ay cl i).nums))]:=by
   rw[Mz]
   simp[AD,CZ,NV,lt]
  rw[c1,append_assoc (AD (cl.take i)++_)]
 have b1:Nat.ble (1+(cl.length - (i+1))) 2147483648=true:=by simp;omega
 have b2:Nat.ble i 2147483648=true:=by simp;omega
 have b3:Nat.ble (i+1) 2147483648=true:=by simp;omega
 have b4:Nat.ble (CI cl i a).length 2147483648=true:=by simp;omega
 have b5:Nat.ble (i * 3+2+1) (AD cl).length=true:=by rw[le];simp;omega
 have v3:=Qq (n+193) (CI cl i a) ss (by omega)
 have v3:f105 (n+199) (CI cl i a).length (AD (CI cl i a)) ss.length (AF ss)=_:=v3
 have ck:=P2 (n+192) (by omega) (CI cl i a) ss
 have ck:f104 (n+199) (CI cl i a).length (AD (CI cl i a)) ss.length (AF ss)=_:=ck
 simp only[okE0,kE0,e1,e2,e3,s0,s1,r0,nil_append,hst,xi,eL,b1,b2,b3,b4,b5,CP,zA,Aw,v3,ck]
 cases hv:F0 (CI cl i a) ss
 ·exact ⟨[],[],false,rfl,rfl,.inl ⟨rfl,rfl,rfl⟩⟩
 ·exact ⟨CI cl i a,ss,true,rfl,rfl,.inr ⟨rfl,rfl,trivial,hv,i,a,rfl,rfl,hi,by omega,ha,rfl⟩⟩
theorem Vv (cl:List As) (ss:List Ao) (hg:Pg cl ss) (hh:WW cl ss) (t:Int) (gt:K8 .i64 t) (k:Int) (gk:K8 .i64 k):∃ n,f10 n cl.length (AD cl) ss.length (AF ss) t k=some true:=by
 refine ⟨1048577+1+2001,?_⟩
 generalize hN:1048577+1=N
 rw[show N+2001=(N+2000)+1 from rfl,f10]
 rcases Tz (N+1994) cl ss hh (by omega) with ⟨r,r0,e0,hf⟩ | e0
 case inr =>
  have e0:f55 (N+2000) cl.length (AD cl) ss.length (AF ss) 1048576=some (-1):=e0
  rw[e0];rfl
 have e0:f55 (N+2000) cl.length (AD cl) ss.length (AF ss) 1048576=some r:=e0
 have e1:=UL (N+1994) cl ss hf (by omega)
 have e1:f56 (N+2000) cl.length (AD cl) ss.length (AF ss)=_:=e1
 obtain ⟨cl',ss',b,e2,e3,hcase⟩:=Pv (N+1800) (by omega) cl ss hg (by have:=(Ia hf).1;omega) t k
 have hx:U2 cl' ss' :=by
  rcases hcase with ⟨-,rfl,rfl⟩ | ⟨-,rfl,-,h2,-⟩
  ·exact ⟨by simp[Hp],by simp[HX]⟩
  ·have hok:=RB h2
   have q:=Q1 cl' (fun e he=>(hok.k e he).2.2)
   have:=hok.c
   exact ⟨by omega,hf.s⟩
 have e2:f60 (N+2000) cl.length (AD cl) ss.length (AF ss) t k=_:=e2
 have e3:f61 (N+2000) cl.length (AD cl) ss.length (AF ss) t k=_:=e3
 have e4:=Q9 (N+1993) cl ss hf (by omega)
 have e4:f57 (N+2000) cl.length (AD cl) ss.length (AF ss) cl.length (AD cl) ss.length (AF ss)=_:=e4
 have e5:=Qt (N+1996) cl ss hf (by omega)
 have e5:f58 (N+2000) cl.length (AD cl) ss.length (AF ss) 1=_:=e5
 have e6:=Q9 (N+1993) cl' ss' hx (by omega)
 have e6:f57 (N+2000) cl'.length (AD cl') ss'.length (AF ss') cl'.length (AD cl') ss'.length (AF ss')=_:=e6
 have e7:=Qt (N+1996) cl' ss' hx (by omega)
 have e7:f58 (N+2000) cl'.length (AD cl') ss'.length (AF ss') 1=_:=e7
 have e8:=UD (N+1996) cl' ss' hx (by omega)
 have e8:f59 (N+2000) cl'.length (AD (AV 1 cl')) ss'.length (AF (BE (1+FJ cl') ss')) 1=_:=e8
 have b1:=B6 cl
 have b2:=Cb ss
 have b3:=B6 cl'
 have b4:=Cb ss'
 simp only[e0,Aw,decide_eq_false (show ¬ r<0 by omega),BU,e1,e2,e3,e4,e5,e6,e7,e8,Bool.not_true,beq_self_eq_true,decide_eq_false (show ¬ (1+FJ cl+EK ss<0) by omega),decide_eq_false (show ¬ (1+FJ cl'+EK ss'<0) by omega),bne_self_eq_false]
theorem law10:∀ args,Da E Try.f10.params.toList args→∃ N os,AZ E N 10 args=some ⟨[⟨false,[.leaf],[.bool true]⟩],os⟩:=by
 intro args h0
 have hp:Try.f10.params.toList=[97,2,2]:=by kernel_rfl
 rw[hp] at h0
 obtain ⟨ts0,r0,rfl,hw0,h1⟩:=h0.cons_inv (d:=⟨true,2,48,[.sl .own [.leaf,.leaf,.sl .own [.leaf]],.sl .own [.sl .own [.leaf,.leaf,.sl .own [.leaf]],.leaf,.leaf,.leaf,.leaf]],[.lst 0 [],.lst 0 []],.st [(0,94),(1,95)]⟩) (by kernel_rfl)
 obtain ⟨cl0,ss0,rfl,gs0,gh0⟩:=PR (dS:=⟨true,2,48,[.sl .own [.leaf,.leaf,.sl .own [.leaf]],.sl .own [.sl .own [.leaf,.leaf,.sl .own [.leaf]],.leaf,.leaf,.leaf,.leaf]],[.lst 0 [],.lst 0 []],.st [(0,94),(1,95)]⟩) (by kernel_rfl) rfl (dCs:=⟨false,1,24,[.sl .own [.leaf,.leaf,.sl .own [.leaf]]],[.lst 0 []],.slc 191⟩) (by kernel_rfl) rfl (dC:=⟨true,3,40,[.leaf,.leaf,.sl .own [.leaf]],[.int .i64 0,.int .i64 0,.lst 0 []],.st [(0,2),(1,2),(2,24)]⟩) (by kernel_rfl) rfl (dSs:=⟨false,1,24,[.sl .own [.sl .own [.leaf,.leaf,.sl .own [.leaf]],.leaf,.leaf,.leaf,.leaf]],[.lst 0 []],.slc 195⟩) (by kernel_rfl) rfl (dSt:=⟨true,5,40,[.sl .own [.leaf,.leaf,.sl .own [.leaf]],.leaf,.leaf,.leaf,.leaf],[.lst 0 [],.int .i64 0,.flt .f32 0,.bool false,.bool false],.st [(0,193),(1,2),(2,29),(3,4),(4,4)]⟩) (by kernel_rfl) rfl (dB:=⟨false,1,1,[.leaf],[.bool false],.bool⟩) (by kernel_rfl) rfl (dEs:=⟨false,1,24,[.sl .own [.leaf,.leaf,.sl .own [.leaf]]],[.lst 0 []],.slc 235⟩) (by kernel_rfl) rfl (dE:=⟨true,3,40,[.leaf,.leaf,.sl .own [.leaf]],[.int .i64 0,.int .i64 0,.lst 0 []],.st [(0,2),(1,2),(2,24)]⟩) (by kernel_rfl) rfl (dI:=⟨false,1,8,[.leaf],[.int .i64 0],.int .i64⟩) (by kernel_rfl) rfl (dFs:=⟨false,1,24,[.sl .own [.leaf]],[.lst 0 []],.slc 29⟩) (by kernel_rfl) rfl (dF:=⟨false,1,4,[.leaf],[.flt .f32 0],.flt .f32⟩) (by kernel_rfl) rfl hw0
 obtain ⟨ts1,r1,rfl,hw1,h2⟩:=h1.cons_inv (d:=⟨false,1,8,[.leaf],[.int .i64 0],.int .i64⟩) (by kernel_rfl)
 obtain ⟨a1,rfl,g1⟩:=hw1.int_inv (k:=.i64) (d:=⟨false,1,8,[.leaf],[.int .i64 0],.int .i64⟩) (by kernel_rfl) rfl
 obtain ⟨ts2,r2,rfl,hw2,h3⟩:=h2.cons_inv (d:=⟨false,1,8,[.leaf],[.int .i64 0],.int .i64⟩) (by kernel_rfl)
 obtain ⟨a2,rfl,g2⟩:=hw2.int_inv (k:=.i64) (d:=⟨false,1,8,[.leaf],[.int .i64 0],.int .i64⟩) (by kernel_rfl) rfl
 obtain rfl:=h3.nil_inv
 obtain ⟨N,hN⟩:=Vv cl0 ss0 gs0 gh0 a1 g1 a2 g2
 exact ⟨N,_,f10.ok N (cl0.length,AD cl0,ss0.length,AF ss0,a1,a2) true hN⟩
end Go.Proofs.Ytdobhipbgpiceaa.D
end
section
namespace Go.Proofs.Ytdobhipbgpiceaa.fnExactSplitClip
open Go Go.ChangeShapes Go.WideShapes Go.ChangeAt Go.RowKit Go.Desk
set_option linter.unusedVariables false
theorem own:ownKnob Try.prog.godebug=none:=by kernel_rfl
theorem laidOut:laidOutB Try.prog=true:=by kernel_rfl
set_option maxRecDepth 100000 in
theorem lifted (os:Os) (started:os.Started) (H:Type) (enc:TypeId × Value→H) :
  ReturnsInHanded {} Try.checked os 10 .any (Rows.fnExactSplitClipSpec.pre6 enc Try.prog Try.f10 Rows.fnExactSplitClipRow.domain false) (Rows.fnExactSplitClipSpec.post enc Try.prog Try.f10 false true false false):=by
 refine returnsInHanded_of_change (C:=Try.checked) own started (by kernel_rfl) Try.func10
  (ChangeSpec.witness6 (enc:=enc) (C:=Try.checked) false ⟨#[],#[.agg #[.slice none 0 0,.slice none 0 0],.int .i64 0,.int .i64 0],[]⟩ 8 (by kernel_rfl) (by kernel_rfl) (by kernel_rfl) (by kernel_rfl)) ?_
 intro W base args ds gs before hval hW hcnd _
 exact law_contract (c:=D.c10) Try.checked.mixed D.tysOk D.fnOk Try.func10 (by kernel_rfl) (by kernel_rfl) (by kernel_rfl) Try.underlying4 rfl
  (fun ds h=>by
    rw[show Try.f10.params.toList.length=3 by kernel_rfl] at h
    match ds,h with
    | [_,_,_],_=>rfl)
  laidOut (N:=8) (by kernel_rfl) (by kernel_rfl) D.law10 hval hW
theorem over:Rows.fnExactSplitClipRow.holds Try.pinned (OpenSpec.ofChange Rows.fnExactSplitClipSpec) :=
 OpenClaim.holds_of_wide 10 Try.f10 rfl rfl rfl rfl rfl rfl rfl ⟨rfl,rfl,rfl,rfl,rfl⟩ rfl rfl rfl rfl rfl (by kernel_rfl) Try.func10 (by kernel_rfl)
  (of_decide_eq_true (by kernel_rfl)) (by unfold Func.isWrapper;first | (rw[if_pos (by decide +kernel)];kernel_rfl) | (rw[if_neg (by decide +kernel)];exact ⟨rfl,rfl⟩))
  (fun os started H enc _=>lifted os started H enc)
theorem proved:Rows.FnExactSplitClipSaid:=over
#print axioms proved
end Go.Proofs.Ytdobhipbgpiceaa.fnExactSplitClip
namespace Go.Proofs.Ytdobhipbgpiceaa
theorem fnExactSplitClip_holds:Rows.FnExactSplitClipSaid:=fnExactSplitClip.proved
end Go.Proofs.Ytdobhipbgpiceaa
end
