/- FnExactRecoverJournal holds: for every input the law returns true, and its arguments read as before; what its row lists is tied to the text. -/
import Derived.Test.YtokonabdnlckdaaDoorM4b
set_option linter.all false
set_option linter.unusedVariables false
open List (all_cons all_eq_true any_eq_false any_eq_true append_assoc append_nil cons_append count_append drop_drop drop_eq_getElem_cons drop_eq_nil_of_le drop_left' drop_zero flatMap_cons flatMap_def flatten_cons foldl_cons length_append length_cons length_eq_one_iff length_eq_zero_iff length_map length_nil length_singleton length_take mapM_cons map_append map_congr_left map_cons map_map map_nil mem_append mem_append_left mem_append_right mem_cons mem_cons_of_mem mem_cons_self mem_flatten mem_map mem_singleton nil_append nodup_append nodup_cons perm_append_comm perm_iff_count perm_middle replicate_succ take_append_drop take_left' take_length take_succ_cons take_zero)
section
namespace Go.Desk
open Go
def CV (σ:AS) (st:C6):AS:=⟨Ae st.ups σ.env,st.g.getD σ.g⟩
def CX (σ0:AS) (sts:List C6) (S:Nat→Bool):Nat→AS
 | 0=>σ0
 | n+1=>match sts[n]? with
   | some st=>if S n then CV (CX σ0 sts S n) st else CX σ0 sts S n
   | none=>CX σ0 sts S n
theorem B8 {σ0:AS} {sts:List C6} {S:Nat→Bool} {n:Nat} {st:C6} (h:sts[n]?=some st):CX σ0 sts S (n+1)=if S n then CV (CX σ0 sts S n) st else CX σ0 sts S n:=by
 simp only[CX,h]
theorem NO (σ:AS) (st:C6) (sts:List C6) (i:Nat):CX σ (st::sts) (fun _=>true) (i+1)=CX (CV σ st) sts (fun _=>true) i:=by
 induction i with
 | zero=>simp[CX]
 | succ i ih =>
   rw[CX,ih]
   simp only[List.getElem?_cons_succ]
   rw[CX]
   cases sts[i]? <;>simp
theorem Hb {E:AX} {callF:Nat→List Am→Option By} {ops:Array Oper}:∀ {l:List Oper} {σ σ':AS} {fs:List (List Nat × List Nat)},Fg E callF ops l σ=some (σ',fs) →
  ∃ sts:List C6,fs=sts.map (fun st=>(st.foot,st.writes))∧sts.length=l.length∧(∀ (i:Nat) o,l[i]?=some o→∃ st,sts[i]?=some st∧Bk E callF ops o (CX σ sts (fun _=>true) i)=some st)∧σ'=CX σ sts (fun _=>true) l.length
 | [],σ,σ',fs,h=>by
   simp only[Fg,zS,zP] at h
   obtain ⟨rfl,rfl⟩:=h
   exact ⟨[],rfl,rfl,by simp,rfl⟩
 | o::l,σ,σ',fs,h=>by
   simp only[Fg] at h
   split at h
   ·simp at h
   rename_i st hst
   split at h
   ·simp at h
   rename_i σ1 fs1 h1
   simp only[zS,zP] at h
   obtain ⟨rfl,rfl⟩:=h
   obtain ⟨sts,rfl,hl,hs,rfl⟩:=Hb h1
   refine ⟨st::sts,rfl,by simp[hl],fun i o' ho' => ?_,?_⟩
   ·cases i with
    | zero =>
      simp only[List.getElem?_cons_zero,zS] at ho'
      subst ho'
      exact ⟨st,rfl,hst⟩
    | succ i =>
      obtain ⟨st',k1,k2⟩:=hs i o' (by simpa using ho')
      exact ⟨st',by simpa using k1,by rw[NO];exact k2⟩
   ·simp only[length_cons]
    rw[NO];rfl
theorem ET (σ:AS) (st:C6) (k:Nat):AE (CV σ st).env k=(KT st.ups k).getD (AE σ.env k):=HG _ _ _
theorem BS {σ0:AS} {sts:List C6} {S S':Nat→Bool} {k:Nat}:∀ {N:Nat},(∀ n st,n<N→sts[n]?=some st→k∈st.ups.map (·.1)→S n=S' n)→AE (CX σ0 sts S N).env k=AE (CX σ0 sts S' N).env k
 | 0,_=>rfl
 | N+1,h=>by
   have ih:=BS (σ0:=σ0) (N:=N) fun n st hn=>h n st (by omega)
   cases hs:sts[N]? with
   | none=>simp only[CX,hs];exact ih
   | some st =>
     rw[B8 hs,B8 hs]
     by_cases hk:k∈st.ups.map (·.1)
     ·rw[h N st (by omega) hs hk]
      cases S' N
      ·simpa using ih
      ·simp only[if_true,ET,ih]
     ·have hu:=Ee hk
      cases S N <;>cases S' N <;>simp[ET,hu,ih]
theorem Dp {σ0:AS} {sts:List C6} {S S':Nat→Bool}:∀ {N:Nat},(∀ n st,n<N→sts[n]?=some st→st.g.isSome=true→S n=S' n)→(CX σ0 sts S N).g=(CX σ0 sts S' N).g
 | 0,_=>rfl
 | N+1,h=>by
   have ih:=Dp (σ0:=σ0) (N:=N) fun n st hn=>h n st (by omega)
   cases hs:sts[N]? with
   | none=>simp only[CX,hs];exact ih
   | some st =>
     rw[B8 hs,B8 hs]
     cases hg:st.g with
     | some g =>
       rw[h N st (by omega) hs (by simp[hg])]
       cases S' N
       ·simpa using ih
       ·simp[CV,hg]
     | none=>cases S N <;>cases S' N <;>simp[CV,hg,ih]
theorem NT {σ0:AS} {sts:List C6} {S:Nat→Bool} {k i:Nat} {st:C6} (hi:sts[i]?=some st) (hS:S i=false) {N:Nat} (hN:i<N) (h:∀ n st',i<n→n<N→sts[n]?=some st'→k∈st'.ups.map (·.1)→k∈st.ups.map (·.1)→S n=false) :
  AE (CX σ0 sts (fun n=>n==i||S n) N).env k=(KT st.ups k).getD (AE (CX σ0 sts S N).env k):=by
 by_cases hk:k∈st.ups.map (·.1)
 ·obtain ⟨s,hs⟩:∃ s,KT st.ups k=some s:=by
   cases hu:KT st.ups k with
   | some s=>exact ⟨s,rfl⟩
   | none =>
     exfalso
     have:∀ us:List (Nat × AA),k∈us.map (·.1)→KT us k≠none:=by
      intro us
      induction us with
      | nil=>simp
      | cons u us ih =>
        obtain ⟨j,t⟩:=u
        intro hm
        simp only[KT]
        split
        ·simp
        ·rename_i hn
         split
         ·simp
         ·rename_i hj
          simp only[map_cons,mem_cons] at hm
          rcases hm with rfl | hm
          ·exact absurd rfl hj
          ·exact absurd hn (ih hm)
     exact this _ hk hu
  have key:∀ d,i+1+d≤N→AE (CX σ0 sts (fun n=>n==i||S n) (i+1+d)).env k=s:=by
   intro d
   induction d with
   | zero=>intro _;rw[Nat.add_zero,B8 hi];simp[ET,hs]
   | succ d ih =>
     intro hd
     have ih:=ih (by omega)
     rw[← Nat.add_assoc]
     cases hst:sts[i+1+d]? with
     | none=>simp only[CX,hst];exact ih
     | some st' =>
       rw[B8 hst]
       by_cases hk':k∈st'.ups.map (·.1)
       ·have:=h (i+1+d) st' (by omega) (by omega) hst hk' hk
        have hne:(i+1+d==i)=false:=by simp;omega
        simp only[this,hne,Bool.or_self,Bool.false_eq_true,if_false];exact ih
       ·split
        ·rw[ET,Ee hk'];exact ih
        ·exact ih
  have:=key (N - (i+1)) (by omega)
  rw[show i+1+(N - (i+1))=N by omega] at this
  rw[this,hs];rfl
 ·rw[Ee hk]
  refine BS fun n st' _ hn hk' => ?_
  by_cases e:n=i
  ·subst e
   rw[hi] at hn
   exact absurd (Option.some.inj hn ▸ hk') hk
  ·simp[e]
theorem PV {σ0:AS} {sts:List C6} {S:Nat→Bool} {i:Nat} {st:C6} (hi:sts[i]?=some st) (hS:S i=false) {N:Nat} (hN:i<N) (h:∀ n st',i<n→n<N→sts[n]?=some st'→st'.g.isSome=true→st.g.isSome=true→S n=false) :
  (CX σ0 sts (fun n=>n==i||S n) N).g=st.g.getD (CX σ0 sts S N).g:=by
 cases hg:st.g with
 | some g =>
   have key:∀ d,i+1+d≤N→(CX σ0 sts (fun n=>n==i||S n) (i+1+d)).g=g:=by
    intro d
    induction d with
    | zero=>intro _;rw[Nat.add_zero,B8 hi];simp[CV,hg]
    | succ d ih =>
      intro hd
      have ih:=ih (by omega)
      rw[← Nat.add_assoc]
      cases hst:sts[i+1+d]? with
      | none=>simp only[CX,hst];exact ih
      | some st' =>
        rw[B8 hst]
        cases hg':st'.g with
        | some g' =>
          have:=h (i+1+d) st' (by omega) (by omega) hst (by simp[hg']) (by simp[hg])
          have hne:(i+1+d==i)=false:=by simp;omega
          simp only[this,hne,Bool.or_self,Bool.false_eq_true,if_false];exact ih
        | none =>
          split
          ·simp only[CV,hg',Option.getD_none];exact ih
          ·exact ih
   have:=key (N - (i+1)) (by omega)
   rw[show i+1+(N - (i+1))=N by omega] at this
   rw[this];rfl
 | none =>
   simp only[Option.getD_none]
   refine Dp fun n st' _ hn hk' => ?_
   by_cases e:n=i
   ·subst e
    rw[hi] at hn
    obtain rfl:=Option.some.inj hn
    simp[hg] at hk'
   ·simp[e]
theorem KB {env:List (Nat × AA)} {k:Nat}:∀ {us:List (Nat × AA)},CD k ∉ JC env us→∀ s,KT us k=some s→s.skel=(AE env k).skel
 | [],_,s,hs=>by simp[KT] at hs
 | (j,t)::us,hn,s,hs=>by
   simp only[JC] at hn
   have ht:CD k ∉ JC env us:=fun hm=>hn (by
    split
    ·exact hm
    ·exact mem_cons_of_mem _ hm)
   simp only[KT] at hs
   split at hs
   ·rename_i s' hs'
    simp only[zS] at hs
    subst hs
    exact KB ht _ hs'
   ·split at hs
    ·rename_i hj
     subst hj
     simp only[zS] at hs
     subst hs
     cases he:HH (AE env j) t with
     | true=>exact Mu he
     | false=>rw[he] at hn;simp at hn
    ·simp at hs
theorem Cx {E:AX} {callF:Nat→List Am→Option By} {ops:Array Oper} {o:Oper} {σ:AS} {st:C6} (h:Bk E callF ops o σ=some st):(∀ k∈st.ups.map (·.1),k∈st.writes)∧(st.g.isSome=true→G∈st.writes) ∧
  (∀ k s,CD k ∉ st.writes→KT st.ups k=some s→s.skel=(AE σ.env k).skel):=by
 unfold Bk at h
 split at h
 ·simp at h
 ·simp only[zS] at h
  subst h
  refine ⟨fun k hk => ?_,by simp,fun k s hn hs => ?_⟩
  ·unfold AL at hk;unfold DL
   cases hd:o.dst <;>simp_all
  ·simp only[AL,DL] at hn hs
   cases hd:o.dst with
   | none=>simp[hd,KT] at hs
   | some d =>
     simp only[hd] at hn hs
     simp only[KT] at hs
     split at hs
     ·rename_i hdk;subst hdk;simp at hn
     ·simp at hs
 ·split at h
  ·simp at h
  rename_i out u hrun
  split at h
  ·simp only[zS] at h
   subst h
   refine ⟨fun k hk=>by simp only[mem_append];exact .inl (.inl hk),fun hg => ?_,fun k s hn hs => ?_⟩
   ·simp only at hg ⊢
    cases hg':out.g with
    | none=>simp[hg'] at hg
    | some g=>simp
   ·simp only[mem_append] at hn
    exact KB (fun hm=>hn (.inl (.inr hm))) s hs
  ·simp at h
theorem Ql {σ0:AS} {sts:List C6} {L:Nat→Bool} {k i N:Nat} (hi:i≤N)
  (hW:∀ m sm s,m<N→sts[m]?=some sm→CD k ∉ sm.writes→KT sm.ups k=some s→s.skel=(AE (CX σ0 sts (fun _=>true) m).env k).skel)
  (hpre:∀ p q sp sq,p<q→q<N→sts[p]?=some sp→sts[q]?=some sq→k∈sp.ups.map (·.1)→k∈sq.ups.map (·.1)→L q=true→L p=true)
  (hkey:∀ m sm,m<N→sts[m]?=some sm→CD k∈sm.writes→k∈sm.ups.map (·.1)→L m=decide (m<i)) :
  (AE (CX σ0 sts L N).env k).skel=(AE (CX σ0 sts (fun _=>true) i).env k).skel:=by
 have hA:∀ M,M≤N→∃ n,n≤M∧∀ m sm,m<M→sts[m]?=some sm→k∈sm.ups.map (·.1)→L m=decide (m<n):=by
  intro M
  induction M with
  | zero=>intro _;exact ⟨0,Nat.le_refl _,fun m sm hm=>by omega⟩
  | succ M ih =>
    intro hM
    obtain ⟨n,hn,h⟩:=ih (by omega)
    by_cases hc:∃ sm,sts[M]?=some sm∧k∈sm.ups.map (·.1)∧L M=true
    ·obtain ⟨sm,h1,h2,h3⟩:=hc
     refine ⟨M+1,Nat.le_refl _,fun m sm' hm hsm' hk' => ?_⟩
     rw[decide_eq_true hm]
     rcases Nat.lt_or_ge m M with h' | h'
     ·exact hpre m M sm' sm h' (by omega) hsm' h1 hk' h2 h3
     ·obtain rfl:m=M:=by omega
      exact h3
    ·refine ⟨n,by omega,fun m sm' hm hsm' hk' => ?_⟩
     rcases Nat.lt_or_ge m M with h' | h'
     ·exact h m sm' h' hsm' hk'
     ·obtain rfl:m=M:=by omega
      rw[decide_eq_false (by omega)]
      cases hL:L m with
      | false=>rfl
      | true=>exact absurd ⟨sm',hsm',hk',hL⟩ hc
 obtain ⟨n,hn,hL⟩:=hA N (Nat.le_refl _)
 have e1:AE (CX σ0 sts L N).env k=AE (CX σ0 sts (fun m=>decide (m<n)) N).env k:=BS fun m sm hm hsm hk=>hL m sm hm hsm hk
 have e2:∀ d,n+d≤N→CX σ0 sts (fun m=>decide (m<n)) (n+d)=CX σ0 sts (fun m=>decide (m<n)) n:=by
  intro d
  induction d with
  | zero=>intro _;rfl
  | succ d ihd =>
    intro hd
    rw[← ihd (by omega),← Nat.add_assoc]
    conv=>lhs;unfold CX
    cases sts[n+d]? with
    | none=>rfl
    | some s =>
      have:¬ n+d<n:=by omega
      simp[this]
 have e2:=e2 (N - n) (by omega)
 rw[show n+(N - n)=N by omega] at e2
 have e3:AE (CX σ0 sts (fun m=>decide (m<n)) n).env k=AE (CX σ0 sts (fun _=>true) n).env k:=BS fun m sm hm _ _=>by simp[hm]
 rw[e1,e2,e3]
 have hstep:∀ m,m<N→(∀ sm,sts[m]?=some sm→k∈sm.ups.map (·.1)→CD k ∉ sm.writes)→(AE (CX σ0 sts (fun _=>true) (m+1)).env k).skel=(AE (CX σ0 sts (fun _=>true) m).env k).skel:=by
  intro m hm hno
  cases hs:sts[m]? with
  | none=>simp only[CX,hs]
  | some sm =>
    rw[B8 hs,if_pos rfl,ET]
    cases hu:KT sm.ups k with
    | none=>rfl
    | some s =>
      have hk:k∈sm.ups.map (·.1):=by
       by_cases h:k∈sm.ups.map (·.1)
       ·exact h
       ·rw[Ee h] at hu;simp at hu
      exact hW m sm s hm hs (hno sm hs hk) hu
 have hrange:∀ a d,a+d≤N→(∀ m sm,a≤m→m<a+d→sts[m]?=some sm→k∈sm.ups.map (·.1)→CD k ∉ sm.writes)→(AE (CX σ0 sts (fun _=>true) (a+d)).env k).skel=(AE (CX σ0 sts (fun _=>true) a).env k).skel:=by
  intro a d
  induction d with
  | zero=>intro _ _;rfl
  | succ d ih =>
    intro hd h
    rw[← Nat.add_assoc,hstep (a+d) (by omega) fun sm hs hk=>h (a+d) sm (by omega) (by omega) hs hk]
    exact ih (by omega) fun m sm h1 h2=>h m sm h1 (by omega)
 rcases Nat.le_total n i with h | h
 ·have:=hrange n (i - n) (by omega) fun m sm h1 h2 hs hk hm=>by
   have q1:=hkey m sm (by omega) hs hm hk
   have q2:=hL m sm (by omega) hs hk
   rw[decide_eq_true (by omega)] at q1
   rw[decide_eq_false (by omega)] at q2
   rw[q1] at q2;simp at q2
  rw[show n+(i - n)=i by omega] at this
  exact this.symm
 ·have:=hrange i (n - i) (by omega) fun m sm h1 h2 hs hk hm=>by
   have q1:=hkey m sm (by omega) hs hm hk
   have q2:=hL m sm (by omega) hs hk
   rw[decide_eq_false (by omega)] at q1
   rw[decide_eq_true (by omega)] at q2
   rw[q1] at q2;simp at q2
  rw[show i+(n - i)=n by omega] at this
  exact this
theorem Ej {xs ys:List Nat} {k:Nat} (h1:k∈xs) (h2:k∈ys):meets xs ys=true:=by
 unfold meets
 rw[any_eq_true]
 exact ⟨k,h1,by rw[any_eq_true];exact ⟨k,h2,by simp⟩⟩
theorem Ik {before:Array Nat} {j:Nat}:∀ {dn:List (List Nat × List Nat)} {i:Nat} {f w:List Nat},Cf.go before j i dn f w=true→∀ m f' w',dn[m]?=some (f',w') →
  (meets w' f||meets w' w||meets f' w)=true→(before.getD j 0).testBit (i+m)=true
 | [],_,_,_,_,m,_,_,h,_=>by simp at h
 | (f0,w0)::dn,i,f,w,h,m,f',w',hm,hc=>by
   simp only[Cf.go,zB] at h
   cases m with
   | zero =>
     simp only[List.getElem?_cons_zero,zS,zP] at hm
     obtain ⟨rfl,rfl⟩:=hm
     have:=h.1
     rw[hc] at this
     simpa using this
   | succ m =>
     have:=Ik h.2 m f' w' (by simpa using hm) hc
     rw[show i+(m+1)=i+1+m by omega];exact this
theorem GP {before:Array Nat}:∀ {rest dn:List (List Nat × List Nat)} {j:Nat},Cf before j dn rest=true→dn.length=j→∀ p q f' w' f w,p<q→j≤q→(dn++rest)[p]?=some (f',w')→(dn++rest)[q]?=some (f,w) →
  (meets w' f||meets w' w||meets f' w)=true→(before.getD q 0).testBit p=true
 | [],dn,j,_,hl,p,q,f',w',f,w,_,hq,_,h,_=>by
   rw[append_nil,List.getElem?_eq_none (by omega)] at h;simp at h
 | (f0,w0)::rest,dn,j,h,hl,p,q,f',w',f,w,hpq,hq,hp,hqe,hc=>by
   simp only[Cf,zB] at h
   rcases Nat.eq_or_lt_of_le hq with rfl | hq
   ·rw[List.getElem?_append_right (by omega),hl,Nat.sub_self] at hqe
    simp only[List.getElem?_cons_zero,zS,zP] at hqe
    obtain ⟨rfl,rfl⟩:=hqe
    rw[List.getElem?_append_left (by omega)] at hp
    have:=Ik h.1 p f' w' hp hc
    simpa using this
   ·have:=GP (dn:=dn++[(f0,w0)]) h.2 (by simp[hl]) p q f' w' f w hpq (by omega)
    rw[append_assoc] at this
    exact this hp hqe hc
def Kk (acc:Array Nat) (o:Oper):Nat:=o.after.foldl (fun s e=>if Region.binds .any e then s ||| 2 ^ e.on ||| acc.getD e.on 0 else s) 0
def bf (l:List Oper):Array Nat:=l.foldl (fun acc o=>acc.push (Kk acc o)) #[]
theorem PE (ops:Array Oper):Region.before ops=bf ops.toList:=by
 unfold Region.before bf
 rw[← Array.foldl_toList];rfl
theorem Q6 (l:List Oper) (o:Oper):bf (l++[o])=(bf l).push (Kk (bf l) o):=by simp[bf]
theorem Mz (l:List Oper):∀ acc:Array Nat,(l.foldl (fun acc o=>acc.push (Kk acc o)) acc).size=acc.size+l.length:=by
 induction l with
 | nil=>simp
 | cons o l ih=>intro acc;rw[foldl_cons,ih];simp;omega
theorem GB (l:List Oper):(bf l).size=l.length:=by unfold bf;rw[Mz];simp
theorem PF (A:Array Nat) (v:Nat) (i:Nat) (h:i<A.size):(A.push v).getD i 0=A.getD i 0:=by
 rw[Array.getD_eq_getD_getElem?,Array.getD_eq_getD_getElem?,Array.getElem?_push,if_neg (by omega)]
theorem Ih (l:List Oper):∀ (acc:Array Nat) (i:Nat),i<acc.size→(l.foldl (fun acc o=>acc.push (Kk acc o)) acc).getD i 0=acc.getD i 0:=by
 induction l with
 | nil=>intro _ _ _;rfl
 | cons o l ih =>
   intro acc i hi
   rw[foldl_cons,ih _ _ (by simp;omega),PF _ _ _ hi]
theorem Ks (l l':List Oper):bf (l++l')=l'.foldl (fun acc o=>acc.push (Kk acc o)) (bf l):=by unfold bf;rw[List.foldl_append]
theorem Su {l:List Oper} {j:Nat} {o:Oper} (h:l[j]?=some o):(bf l).getD j 0=Kk (bf (l.take j)) o:=by
 have hj:j<l.length:=(List.getElem?_eq_some_iff.1 h).1
 have hl:l=l.take j++([o]++l.drop (j+1)):=Bp h
 have:bf l=(l.drop (j+1)).foldl (fun acc o=>acc.push (Kk acc o)) (bf (l.take j++[o])):=by
  rw[← Ks,append_assoc];exact congrArg bf hl
 have hs:(bf (l.take j)).size=j:=by rw[GB,length_take];omega
 rw[this,Ih _ _ _ (by rw[GB];simp;omega),Q6]
 rw[Array.getD_eq_getD_getElem?,Array.getElem?_push,if_pos hs.symm];rfl
theorem RI {l:List Oper} {j i:Nat}:(bf (l.take j)).getD i 0=if i<j then (bf l).getD i 0 else 0:=by
 by_cases hi:i<(l.take j).length
 ·have h1:i<j∧i<l.length:=by rw[length_take] at hi;omega
  rw[if_pos h1.1]
  have:bf l=(l.drop j).foldl (fun acc o=>acc.push (Kk acc o)) (bf (l.take j)):=by
   rw[← Ks,take_append_drop]
  rw[this,Ih _ _ _ (by rw[GB];exact hi)]
 ·have hz:(bf (l.take j)).getD i 0=0:=by
   rw[Array.getD_eq_getD_getElem?,Array.getElem?_eq_none (by rw[GB];omega)];rfl
  rw[hz]
  split
  ·rename_i hij
   have:l.length≤i:=by rw[length_take] at hi;omega
   rw[Array.getD_eq_getD_getElem?,Array.getElem?_eq_none (by rw[GB];omega)];rfl
  ·rfl
theorem Pl {acc:Array Nat} {o:Oper} {b:Nat} (h:(Kk acc o).testBit b=true):∃ e∈o.after,Region.binds .any e=true∧(b=e.on∨(acc.getD e.on 0).testBit b=true):=by
 unfold Kk at h
 rw[← Array.foldl_toList] at h
 have key:∀ (l:List Edge) (s:Nat),(l.foldl (fun s e=>if Region.binds .any e then s ||| 2 ^ e.on ||| acc.getD e.on 0 else s) s).testBit b=true →
   s.testBit b=true∨∃ e∈l,Region.binds .any e=true∧(b=e.on∨(acc.getD e.on 0).testBit b=true):=by
  intro l
  induction l with
  | nil=>intro s hs;exact .inl hs
  | cons e l ih =>
    intro s hs
    rw[foldl_cons] at hs
    rcases ih _ hs with h1 | ⟨e',he',h1⟩
    ·split at h1
     ·rename_i hb
      rw[Nat.testBit_or,Nat.testBit_or,Nat.testBit_two_pow] at h1
      simp only[Bool.or_eq_true,decide_eq_true_eq] at h1
      rcases h1 with (h1 | h1) | h1
      ·exact .inl h1
      ·exact .inr ⟨e,by simp,hb,.inl h1.symm⟩
      ·exact .inr ⟨e,by simp,hb,.inr h1⟩
     ·exact .inl h1
    ·exact .inr ⟨e',mem_cons_of_mem _ he',h1⟩
 rcases key _ _ h with h1 | ⟨e,he,h1⟩
 ·simp at h1
 ·exact ⟨e,by simpa using he,h1⟩
theorem NN {ops:Array Oper} {j b:Nat} (h:((Region.before ops).getD j 0).testBit b=true) :
  ∃ o,ops[j]?=some o∧∃ e∈o.after,Region.binds .any e=true∧(b=e.on∨((Region.before ops).getD e.on 0).testBit b=true):=by
 rw[PE] at h ⊢
 cases ho:ops[j]? with
 | none =>
   have:ops.size≤j:=by
    rcases Nat.lt_or_ge j ops.size with h' | h'
    ·rw[Array.getElem?_eq_getElem h'] at ho;simp at ho
    ·exact h'
   rw[Array.getD_eq_getD_getElem?,Array.getElem?_eq_none (by rw[GB];simpa using this)] at h
   simp at h
 | some o =>
   have ho':ops.toList[j]?=some o:=by simpa using ho
   rw[Su ho'] at h
   obtain ⟨e,he,hb,h1⟩:=Pl h
   refine ⟨o,rfl,e,he,hb,?_⟩
   rcases h1 with h1 | h1
   ·exact .inl h1
   ·rw[RI] at h1
    split at h1
    ·exact .inr h1
    ·simp at h1
section
variable {C:BU} {w w':World} {a a':Act} {σ τ:AS} {Lt Lt':Nat→Nat→Prop} {cv cv':Nat→Value} {fp fpU:Nat→Fp} {g g' n:Nat} {env env':List (Nat × AA)} {o:Oper} {Fz Fz':Nat→Prop}
variable {callF:Nat→List Am→Option By} {ops:Array Oper} {Q:Exit→Act→World→Prop}
def Th (σ τ:AS):Prop:=(∀ k,AE σ.env k=AE τ.env k)∧σ.g=τ.g
theorem HK.same (h:HK C n w a τ) (hs:Th σ τ):HK C n w a σ:=by
 obtain ⟨h1,h2⟩:=h
 exact ⟨by cases σ;exact h1.congr hs.1 hs.2,h2⟩
theorem My (sts:List C6) (hstep:∀ (i:Nat) o,ops[i]?=some o→∃ st,sts[i]?=some st∧Bk C.E callF ops o (CX σ sts (fun _=>true) i)=some st)
  (hok:Jx n (C.fx.map (·.1)) ops=true) (hE:Bw C.P C.E) (hF:∀ f,FnOk C.P C.E.laid callF f) (hQ:∀ a' w',HK C n w' a' (CX σ sts (fun _=>true) ops.size)→Q .normal a' w') :
  ∀ d m a w,m+d=ops.size→HK C n w a (CX σ sts (fun _=>true) m)→wpOps C.P ops Q (List.range' m d) a w:=by
 intro d
 induction d with
 | zero =>
   intro m a w hm hs
   simp only[List.range'_zero,wpOps]
   obtain rfl:m=ops.size:=by omega
   exact hQ a w hs
 | succ d ih =>
   intro m a w hm hs
   rw[List.range'_succ,wpOps_cons]
   have hlt:m<ops.size:=by omega
   obtain ⟨st,h1,h2⟩:=hstep m _ (Array.getElem?_eq_getElem hlt)
   refine Kq (Array.getElem?_eq_getElem hlt) hs hok hE hF h2 fun a' w' hs'=>ih (m+1) a' w' (by omega) ?_
   rw[B8 h1]
   exact hs'
structure Any (C:BU) (n:Nat) (ops:Array Oper) (σ:AS) (sts:List C6) (listed:Array Bool) (w:World) (a:Act):Prop where
 size:listed.size=ops.size
 closed:∀ j,listed.getD j false=true→∀ b,((Region.before ops).getD j 0).testBit b=true→listed.getD b false=true
 st:HK C n w a (CX σ sts (fun j=>listed.getD j false) ops.size)
theorem Mo (A:Array Bool) (i j:Nat) (hi:i<A.size):(A.setIfInBounds i true).getD j false=(j==i||A.getD j false):=by
 rw[Array.getD_eq_getD_getElem?,Array.getD_eq_getD_getElem?,Array.getElem?_setIfInBounds]
 by_cases h:i=j
 ·subst h;simp[hi]
 ·have:(j==i)=false:=by simp;omega
  simp[h,this]
theorem count_set (A:Array Bool) (i:Nat) (hi:i<A.size) (h:A.getD i true=false):A.toList.count false=(A.setIfInBounds i true).toList.count false+1:=by
 rw[Array.toList_setIfInBounds]
 have hi':i<A.toList.length:=by simpa using hi
 have hv:A.toList[i]=false:=by
  rw[Array.getD_eq_getD_getElem?,Array.getElem?_eq_getElem hi] at h
  simpa using h
 have hpos:0<A.toList.count false:=List.count_pos_iff.2 (hv ▸ List.getElem_mem hi')
 have hc:=List.count_set (b:=false) (a:=true) hi'
 rw[hv] at hc
 rw[hc]
 have e1:(if (false==false)=true then 1 else 0)=1:=rfl
 have e2:(if (true==false)=true then 1 else 0)=0:=rfl
 rw[e1,e2]
 omega
theorem No (sts:List C6) (hlen:sts.length=ops.size) (hstep:∀ (i:Nat) o,ops[i]?=some o→∃ st,sts[i]?=some st∧Bk C.E callF ops o (CX σ sts (fun _=>true) i)=some st)
  (hrace:Cf (Region.before ops) 0 [] (sts.map fun st=>(st.foot,st.writes))=true)
  (hok:Jx n (C.fx.map (·.1)) ops=true) (hE:Bw C.P C.E) (hF:∀ f,FnOk C.P C.E.laid callF f) (hQ:∀ a' w',HK C n w' a' (CX σ sts (fun _=>true) ops.size)→Q .normal a' w') :
  ∀ fuel listed a w,listed.toList.count false=fuel→Any C n ops σ sts listed w a→wpAny C.P .any ops Q fuel listed a w:=by
 have hall:∀ listed a w,Any C n ops σ sts listed w a→(∀ j,j<ops.size→listed.getD j false=true)→Q .normal a w:=by
  intro listed a w hA hl
  refine hQ a w ?_
  refine hA.st.same ⟨fun k=>BS fun m st hm hst _=>(hl m hm).symm,Dp fun m st hm hst _=>(hl m hm).symm⟩
 have hrace':∀ p q sp sq,p<q→sts[p]?=some sp→sts[q]?=some sq→(meets sp.writes sq.foot||meets sp.writes sq.writes||meets sp.foot sq.writes)=true→((Region.before ops).getD q 0).testBit p=true:=by
  intro p q sp sq hpq hp hq hc
  exact GP hrace rfl p q sp.foot sp.writes sq.foot sq.writes hpq (by omega) (by simp[hp]) (by simp[hq]) hc
 intro fuel
 induction fuel with
 | zero =>
   intro listed a w hcnt hA
   have hl:∀ j,j<ops.size→listed.getD j false=true:=by
    intro j hj
    have hj':j<listed.size:=by rw[hA.size];exact hj
    have:listed.toList[j]∈listed.toList:=List.getElem_mem _
    cases hv:listed.toList[j]'(by simpa using hj') with
    | true=>rw[Array.getD_eq_getD_getElem?,Array.getElem?_eq_getElem hj'];simpa using hv
    | false=>rw[hv] at this;exact absurd hcnt (by have:=List.count_pos_iff.2 this;omega)
   refine ⟨?_,hall listed a w hA hl⟩
   rw[List.eq_nil_iff_forall_not_mem]
   intro j hj
   obtain ⟨h0,o,ho,-⟩:=mem_ready.1 hj
   have hj' :=(Array.getElem?_eq_some_iff.1 ho).1
   have:=hl j hj'
   rw[Array.getD_eq_getD_getElem?,Array.getElem?_eq_getElem (by rw[hA.size];exact hj')] at this h0
   simp at this h0
   rw[this] at h0;simp at h0
 | succ fuel ih =>
   intro listed a w hcnt hA
   refine ⟨fun hr=>hall listed a w hA fun j => ?_,fun i hi => ?_⟩
   ·induction j using Nat.strongRecOn with
    | _ j jh =>
      intro hj
      cases hv:listed.getD j false with
      | true=>rfl
      | false =>
        exfalso
        have:j∈Region.ready .any ops listed:=by
         rw[mem_ready]
         refine ⟨?_,ops[j],Array.getElem?_eq_getElem hj,fun e he hb => ?_⟩
         ·rw[Array.getD_eq_getD_getElem?,Array.getElem?_eq_getElem (by rw[hA.size];exact hj)] at hv ⊢
          simpa using hv
         ·have:=(G9 hok (Array.getElem?_eq_getElem hj)).2.2 e he hb
          exact jh e.on this (by omega)
        rw[hr] at this;simp at this
   ·obtain ⟨h0,o,ho,hafter⟩:=mem_ready.1 hi
    have hlt:=(Array.getElem?_eq_some_iff.1 ho).1
    have hil:i<listed.size:=by rw[hA.size];exact hlt
    have hnot:listed.getD i false=false:=by
     rw[Array.getD_eq_getD_getElem?,Array.getElem?_eq_getElem hil] at h0 ⊢
     simpa using h0
    obtain ⟨st,hst,hstep0⟩:=hstep i o ho
    obtain ⟨hw1,hw2,-⟩:=Cx hstep0
    have hwr:∀ (m:Nat) sm,sts[m]?=some sm→(∀ k∈sm.ups.map (·.1),k∈sm.writes)∧(sm.g.isSome=true→G∈sm.writes):=by
     intro m sm hm
     have hml:m<ops.size:=by rw[← hlen];exact (List.getElem?_eq_some_iff.1 hm).1
     obtain ⟨sm',h1,h2⟩:=hstep m _ (Array.getElem?_eq_getElem hml)
     rw[hm] at h1
     obtain rfl:=Option.some.inj h1
     exact ⟨(Cx h2).1,(Cx h2).2.1⟩
    have hpre:∀ b,((Region.before ops).getD i 0).testBit b=true→listed.getD b false=true:=by
     intro b hb
     obtain ⟨o',ho',e,he,hbd,h1⟩:=NN hb
     rw[ho] at ho'
     obtain rfl:=Option.some.inj ho'
     have hl:=hafter e he hbd
     rcases h1 with rfl | h1
     ·exact hl
     ·exact hA.closed _ hl b h1
    have key:∀ m sm,m<ops.size→sts[m]?=some sm→(meets st.foot sm.writes=true)→listed.getD m false=decide (m<i):=by
     intro m sm hm hsm hc
     rcases Nat.lt_trichotomy m i with h | h | h
     ·rw[decide_eq_true h]
      refine hpre m (hrace' m i sm st h hsm hst ?_)
      have:meets sm.writes st.foot=true:=by
       unfold meets at hc ⊢
       simp only[any_eq_true,beq_iff_eq] at hc ⊢
       obtain ⟨x,hx,y,hy,e⟩:=hc
       exact ⟨y,hy,x,hx,e.symm⟩
      simp[this]
     ·subst h
      rw[hnot];simp
     ·rw[decide_eq_false (by omega)]
      cases hv:listed.getD m false with
      | false=>rfl
      | true =>
        have:=hA.closed m hv i (hrace' i m st sm h hst hsm (by simp[hc]))
        rw[hnot] at this;simp at this
    have hprefix:∀ k,AE (CX σ sts (fun j=>decide (j<i)) ops.size).env k=AE (CX σ sts (fun _=>true) i).env k∧(CX σ sts (fun j=>decide (j<i)) ops.size).g=(CX σ sts (fun _=>true) i).g:=by
     intro k
     have h1:∀ d,i+d≤ops.size→CX σ sts (fun j=>decide (j<i)) (i+d)=CX σ sts (fun j=>decide (j<i)) i:=by
      intro d
      induction d with
      | zero=>intro _;rfl
      | succ d ihd =>
        intro hd
        rw[← ihd (by omega),← Nat.add_assoc]
        conv=>lhs;unfold CX
        cases sts[i+d]? with
        | none=>rfl
        | some s =>
          have:¬ i+d<i:=by omega
          simp[this]
     have h2:=h1 (ops.size - i) (by omega)
     rw[show i+(ops.size - i)=ops.size by omega] at h2
     rw[h2]
     exact ⟨BS fun m sm hm _ _=>by simp[hm],Dp fun m sm hm _ _=>by simp[hm]⟩
    obtain ⟨st',hst',hsu,hsg⟩:∃ st',Bk C.E callF ops o (CX σ sts (fun j=>listed.getD j false) ops.size)=some st'∧st'.ups=st.ups∧st'.g=st.g:=by
     refine MH hstep0 (fun k hk => ?_) (fun k hk => ?_) (fun hG => ?_)
     ·rw[← (hprefix k).1]
      exact BS fun m sm hm hsm hk'=>key m sm hm hsm (Ej hk ((hwr m sm hsm).1 k hk'))
     ·refine Ql (by omega) (fun m sm s hm hsm hn hs => ?_) (fun p q sp sq hpq hq hsp hsq h1 h2 hl => ?_) (fun m sm hm hsm hn _=>key m sm hm hsm (Ej hk hn))
      ·obtain ⟨sm',g1,g2⟩:=hstep m _ (Array.getElem?_eq_getElem hm)
       rw[hsm] at g1
       obtain rfl:=Option.some.inj g1
       exact (Cx g2).2.2 k s hn hs
      ·refine hA.closed q hl p (hrace' p q sp sq hpq hsp hsq ?_)
       simp[Ej ((hwr p sp hsp).1 k h1) ((hwr q sq hsq).1 k h2)]
     ·rw[← (hprefix 0).2]
      exact Dp fun m sm hm hsm hg=>key m sm hm hsm (Ej hG ((hwr m sm hsm).2 hg))
    have hlater:∀ m sm,i<m→m<ops.size→sts[m]?=some sm→meets st.writes sm.writes=true→listed.getD m false=false:=by
     intro m sm him hm hsm hc
     cases hv:listed.getD m false with
     | false=>rfl
     | true =>
       have:=hA.closed m hv i (hrace' i m st sm him hst hsm (by simp[hc]))
       rw[hnot] at this;simp at this
    refine Kq ho hA.st hok hE hF hst' fun a' w' hs' => ?_
    rw[hsu,hsg] at hs'
    refine ih _ a' w' ?_ ⟨?_,?_,?_⟩
    ·have:=count_set listed i hil h0
     omega
    ·rw[Array.size_setIfInBounds];exact hA.size
    ·intro j hj b hb
     rw[Mo _ _ _ hil] at hj ⊢
     simp only[Bool.or_eq_true,beq_iff_eq] at hj ⊢
     rcases hj with rfl | hj
     ·exact .inr (hpre b hb)
     ·exact .inr (hA.closed j hj b hb)
    ·have e:(fun j=>(listed.setIfInBounds i true).getD j false)=fun j=>j==i||listed.getD j false:=funext fun j=>Mo _ _ _ hil
     rw[e]
     refine hs'.same ⟨fun k => ?_,?_⟩
     ·rw[NT hst hnot hlt fun m sm h1 h2 h3 h4 h5=>hlater m sm h1 h2 h3 (Ej (hw1 k h5) ((hwr m sm h3).1 k h4))]
      exact (HG _ _ _).symm
     ·rw[PV hst hnot hlt fun m sm h1 h2 h3 h4 h5=>hlater m sm h1 h2 h3 (Ej (hw2 h5) ((hwr m sm h3).2 h4))]
theorem HK.drew (h:HK C n w a σ):HK C n w.drew a σ:=by
 obtain ⟨⟨h1,Lt,cv,fp,h2⟩,h3⟩:=h
 exact ⟨⟨h1,Lt,cv,fp,h2.quiet (Ab.refl w _).drew⟩,h3⟩
theorem PR {id:Nat} {draw:Bool} {fs:List (List Nat × List Nat)} (hm:C.P.follows .mixedOrders=true) (h:Fg C.E callF ops ops.toList σ=some (τ,fs)) (hr:(!draw||Cf (Region.before ops) 0 [] fs)=true)
  (hok:Jx n (C.fx.map (·.1)) ops=true) (hE:Bw C.P C.E) (hF:∀ f,FnOk C.P C.E.laid callF f) (hs:HK C n w a σ) (hQ:∀ a' w',HK C n w' a' τ→Q .normal a' w'):(Code.region id ops draw).wp C.P Q a w:=by
 obtain ⟨sts,rfl,hlen,hstep,rfl⟩:=Hb h
 have hlen':sts.length=ops.size:=by rw[hlen];simp
 have hstep':∀ (i:Nat) o,ops[i]?=some o→∃ st,sts[i]?=some st∧Bk C.E callF ops o (CX σ sts (fun _=>true) i)=some st:=fun i o ho=>hstep i o (by simpa using ho)
 have hQ':∀ a' w',HK C n w' a' (CX σ sts (fun _=>true) ops.size)→Q .normal a' w' :=fun a' w' h'=>hQ a' w' (by simpa using h')
 cases draw with
 | false =>
   refine wp_region ?_
   rw[List.range_eq_range']
   exact My sts hstep' hok hE hF hQ' ops.size 0 a w (by omega) hs
 | true =>
   refine wp_region_any hm ?_
   refine No sts hlen' hstep' (by simpa using hr) hok hE hF hQ' _ _ a _ (by simp) ⟨by simp,fun j hj => ?_,?_⟩
   ·exfalso
    rw[Array.getD_eq_getD_getElem?,Array.getElem?_replicate] at hj
    split at hj <;>simp at hj
   ·have e:∀ N,CX σ sts (fun j=>(Array.replicate ops.size false).getD j false) N=σ:=by
     intro N
     induction N with
     | zero=>rfl
     | succ N ih =>
       have hf:(Array.replicate ops.size false).getD N false=false:=by
        rw[Array.getD_eq_getD_getElem?,Array.getElem?_replicate];split <;>rfl
       unfold CX
       cases sts[N]? with
       | none=>exact ih
       | some st=>simp only[hf,Bool.false_eq_true,if_false];exact ih
    rw[e]
    exact hs.drew
end
section
variable {C:BU} {w w':World} {a a':Act} {σ τ:AS} {Lt Lt':Nat→Nat→Prop} {cv cv':Nat→Value} {fp fpU:Nat→Fp} {g g' n:Nat} {env env':List (Nat × AA)} {o:Oper} {Fz Fz':Nat→Prop}
theorem Ob (F:Nat→AA):∀ (ks:List Nat) (k:Nat),AE (ks.map fun k=>(k,F k)) k=if k∈ks then F k else .dead
 | [],k=>by simp[AE]
 | j::ks,k=>by
   simp only[map_cons,AE,Ob F ks k,mem_cons]
   by_cases h:j=k
   ·subst h;simp
   ·have:¬ k=j:=fun e=>h e.symm
    simp[h,this]
theorem Fo (env:List (Nat × AA)) (keep:List Nat) (s:AA):(s.settle env keep).root=s.root.map (fun x=>(x.1,x.2.1,[])):=by
 cases s with
 | view k pl =>
   simp only[AA.settle]
   split
   ·split
    ·rfl
    ·split <;>rfl
   ·rfl
 | ptr k pl =>
   simp only[AA.settle]
   split
   ·split
    ·rfl
    ·split <;>rfl
   ·rfl
 | clo f caps =>
   simp only[AA.settle]
   split <;>rfl
 | _=>rfl
theorem F2 {env:List (Nat × AA)} {keep:List Nat} {s:AA} {v:Value} {vs:List Value} {b:Option (Nat × Nat)} (h:AY w v s vs b):AY w v (s.settle env keep) vs b:=by
 cases s <;>first | exact h | exact h.elim
theorem OO {ps:List Pm} {c:Nat} {el:List Pm} (h:ps[c]?=some (.sl .own el)):noOwns ps=false:=by
 induction ps generalizing c with
 | nil=>simp at h
 | cons p ps ih =>
   cases c with
   | zero =>
     simp only[List.getElem?_cons_zero,zS] at h
     subst h;simp[noOwns,Pm.noOwn]
   | succ c=>simp[noOwns,ih (by simpa using h)]
theorem NS {v u:Value} {s:AA} {pl:AO} {p:List Pm} {cs:List T} {d:CE} (h:Ld w v s pl u) (hr:s.root=some (p,cs,d)) (hs:BF d pl=false) (keep:List Nat) (env:List (Nat × AA)):AI (s.settle env keep):=by
 obtain ⟨vs0,base0,el,rv,b,o,h1,h2,h3⟩:=h p cs d hr hs
 cases s with
 | val ag p' cs' d' pin =>
   simp only[AA.root,zS,zP] at hr
   obtain ⟨rfl,rfl,rfl⟩:=hr
   simp only[AA.settle,AI]
   obtain ⟨-,rfl⟩:=h1
   cases hp:pl.path with
   | nil=>rw[hp] at h2;simp[A8] at h2
   | cons ec path =>
     rw[hp] at h2
     obtain ⟨e,c⟩:=ec
     simp only[A8] at h2
     split at h2
     ·rename_i hc;exact OO hc
     ·simp at h2
 | box=>trivial
 | _=>simp[AA.root] at hr
def kept (keep:List Nat):List Nat:=keep.filter fun k=>Nat.blt k 1000000
theorem EU {keep:List Nat} {k:Nat}:k∈kept keep↔k∈keep∧k<1000000:=by
 unfold kept;rw[List.mem_filter];simp
theorem BT (keep:List Nat) (σ:AS) (k:Nat):AE (settle0 keep σ).env k=if k∈kept keep then (AE σ.env k).settle σ.env keep else .dead:=Ob _ _ _
theorem Hy (keep:List Nat):∀ {caps:List (Nat × AO)} {vs:List Value},CJ w cv σ.env caps vs→(∀ c∈caps,c.1∈kept keep∧∃ p cs d,(AE σ.env c.1).root=some (p,cs,d)∧BF d c.2=false) →
  CJ w cv (settle0 keep σ).env caps vs
 | [],[],_,_=>trivial
 | [],_::_,h,_=>h.elim
 | _::_,[],h,_=>h.elim
 | c::caps,v::vs,h,hc=>by
   refine ⟨?_,Hy keep h.2 fun c' hc'=>hc c' (mem_cons_of_mem _ hc')⟩
   obtain ⟨hk,p,cs,d,hr,hs⟩:=hc c (by simp)
   rw[BT,if_pos hk]
   intro p' cs' d' hr' hs'
   rw[Fo,hr] at hr'
   simp only[Option.map_some,zS,zP] at hr'
   obtain ⟨rfl,rfl,rfl⟩:=hr'
   obtain ⟨vs0,base0,el,rv,b,o,h1,h2,h3⟩:=h.1 p cs d hr hs
   exact ⟨vs0,base0,el,rv,b,o,F2 h1,h2,h3⟩
theorem Lo (h:BY C w a σ Lt cv fp) (keep:List Nat):∃ Lt' fp',BY C w a (settle0 keep σ) Lt' cv fp' :=by
 have hR:∃ Lt',(∀ b j,Lt' b j→Lt b j)∧∀ k∈kept keep,∀ ps ts vs f,((AE σ.env k).settle σ.env keep).lentFree=noLents ps→R w C.Fz Lt σ.g ps ts vs f→R w C.Fz Lt' (settle0 keep σ).g ps ts vs f:=by
  by_cases hl:((kept keep).map fun k=>(k,(AE σ.env k).settle σ.env keep)).all (fun x=>x.2.lentFree)=true
  ·have hg:(settle0 keep σ).g=0:=by
    show (if ((kept keep).map fun k=>(k,(AE σ.env k).settle σ.env keep)).all (fun x=>x.2.lentFree)=true then 0 else σ.g)=0
    rw[if_pos hl]
   rw[hg]
   refine ⟨noLt,fun _ _ h=>h.elim,fun k hk ps ts vs f e hR => ?_⟩
   rw[all_eq_true] at hl
   have:=hl _ (mem_map.2 ⟨k,hk,rfl⟩)
   exact hR.noLent (e ▸ this) (fun _ _ _ _=>id)
  ·have hg:(settle0 keep σ).g=σ.g:=by
    show (if ((kept keep).map fun k=>(k,(AE σ.env k).settle σ.env keep)).all (fun x=>x.2.lentFree)=true then 0 else σ.g)=σ.g
    rw[if_neg hl]
   rw[hg]
   exact ⟨Lt,fun _ _ h=>h,fun _ _ _ _ _ _ _ h=>h⟩
 obtain ⟨Lt',hLt,hR⟩:=hR
 have hlk:∀ j,∀ k∈(AE (settle0 keep σ).env j).looks,k<1000000∧AI (AE (settle0 keep σ).env k):=by
  intro j k hk
  rw[BT] at hk
  by_cases hj:j∈kept keep
  ·rw[if_pos hj] at hk
   have hl:=h.looks j
   have hs:=h.slots j
   cases hg:AE σ.env j with
   | view k' pl =>
     rw[hg] at hk hl hs
     simp only[AA.settle] at hk
     split at hk
     ·rename_i hkk
      split at hk
      ·simp[AA.looks] at hk
      ·rename_i p cs d hroot
       split at hk
       ·simp[AA.looks] at hk
       ·rename_i hst
        simp only[AA.looks,mem_singleton] at hk hl
        subst hk
        have hk0:=(hl k rfl).1
        refine ⟨hk0,?_⟩
        rw[BT,if_pos (EU.2 ⟨by simpa using hkk,hk0⟩)]
        simp only[Bool.or_eq_true,not_or,Bool.not_eq_true] at hst
        cases hs':AE σ.env k with
        | val ag p' cs' d' pin =>
          rw[hs'] at hroot
          simp only[AA.root,zS,zP] at hroot
          obtain ⟨rfl,-,-⟩:=hroot
          exact hst.2
        | box=>trivial
        | _=>rw[hs'] at hroot;simp[AA.root] at hroot
     ·simp[AA.looks] at hk
   | ptr k' pl =>
     rw[hg] at hk hl hs
     simp only[AA.settle] at hk
     split at hk
     ·rename_i hkk
      split at hk
      ·simp[AA.looks] at hk
      ·rename_i p cs d hroot
       split at hk
       ·simp[AA.looks] at hk
       ·rename_i hst
        simp only[AA.looks,mem_singleton] at hk hl
        subst hk
        have hk0:=(hl k rfl).1
        refine ⟨hk0,?_⟩
        rw[BT,if_pos (EU.2 ⟨by simpa using hkk,hk0⟩)]
        exact NS hs.2 hroot (by simpa using hst) _ _
     ·simp[AA.looks] at hk
   | clo f caps =>
     rw[hg] at hk hl hs
     simp only[AA.settle] at hk
     split at hk
     ·rename_i hall
      simp only[AA.looks] at hk hl
      obtain ⟨c,hc,rfl⟩:=mem_map.1 hk
      have hk0:=(hl c.1 hk).1
      refine ⟨hk0,?_⟩
      rw[all_eq_true] at hall
      have hc' :=hall c hc
      simp only[zB] at hc'
      obtain ⟨h1,h2⟩:=hc'
      rw[BT,if_pos (EU.2 ⟨by simpa using h1,hk0⟩)]
      split at h2
      ·simp at h2
      ·rename_i p cs d hroot
       obtain ⟨-,vs,-,hcr⟩:=hs
       have:∀ {caps:List (Nat × AO)} {vs:List Value},CJ w cv σ.env caps vs→c∈caps→∃ v,Ld w (cv c.1) (AE σ.env c.1) c.2 v:=by
        intro caps
        induction caps with
        | nil=>intro vs _ hm;simp at hm
        | cons c0 caps ih =>
          intro vs hcr hm
          cases vs with
          | nil=>exact hcr.elim
          | cons v vs =>
            rw[mem_cons] at hm
            rcases hm with rfl | hm
            ·exact ⟨v,hcr.1⟩
            ·exact ih hcr.2 hm
       obtain ⟨v,hv⟩:=this hcr hc
       exact NS hv hroot (by simpa using h2) _ _
     ·simp[AA.looks] at hk
   | _=>rw[hg] at hk;simp[AA.settle,AA.looks] at hk
  ·rw[if_neg hj] at hk;simp[AA.looks] at hk
 refine ⟨Lt',fun k=>if k∈kept keep then fp k else [],⟨h.tmps,fun k => ?_,fun k => ?_,fun j k hjk x hx y hy => ?_,fun k f hf => ?_,fun b j hb=>h.lt b j (hLt b j hb),hlk,h.fz,h.ext,h.size,h.laid⟩⟩
 ·by_cases hk:k∈kept keep
  ·have hs:=h.slots k
   have hgk:AE (settle0 keep σ).env k=(AE σ.env k).settle σ.env keep:=by rw[BT,if_pos hk]
   have hRk:=hR k hk
   have hlk0:=h.looks k
   rw[hgk]
   simp only[if_pos hk]
   cases hg:AE σ.env k with
   | dead=>rw[hg] at hs;exact hs
   | gone=>rw[hg] at hs;exact hs
   | und=>rw[hg] at hs;exact hs.1
   | tup m=>rw[hg] at hs;exact hs.1
   | val ag p cs d pin =>
     rw[hg] at hs hRk
     obtain ⟨vs,h1,h2,h3⟩:=hs
     exact ⟨vs,h1,hRk _ _ _ _ rfl h2,h3⟩
   | box p cs d pin =>
     rw[hg] at hs hRk
     obtain ⟨h1,h2⟩:=hs
     exact ⟨hRk _ _ _ _ (by simp[AA.settle,AA.lentFree,noLents,Pm.noLent]) h1,h2⟩
   | view k' pl =>
     rw[hg] at hs hlk0
     obtain ⟨hf,hv⟩:=hs
     simp only[AA.settle]
     split
     ·rename_i hkk
      split
      ·exact hf
      ·rename_i p cs d hroot
       split
       ·exact hf
       ·rename_i hst
        refine ⟨hf,?_⟩
        simp only[Bool.or_eq_true,not_or,Bool.not_eq_true] at hst
        have hk0:=(hlk0 k' (by simp[AA.looks])).1
        rw[BT,if_pos (EU.2 ⟨by simpa using hkk,hk0⟩)]
        intro p' cs' d' hr' hs'
        rw[Fo,hroot] at hr'
        simp only[Option.map_some,zS,zP] at hr'
        obtain ⟨rfl,rfl,rfl⟩:=hr'
        obtain ⟨vs0,base0,el,rv,base,h1,h2,h3⟩:=hv p cs d hroot hst.1
        exact ⟨vs0,base0,el,rv,base,F2 h1,h2,h3⟩
     ·exact hf
   | ptr k' pl =>
     rw[hg] at hs hlk0
     obtain ⟨hf,hv⟩:=hs
     simp only[AA.settle]
     split
     ·rename_i hkk
      split
      ·exact hf
      ·rename_i p cs d hroot
       split
       ·exact hf
       ·rename_i hst
        refine ⟨hf,?_⟩
        have hk0:=(hlk0 k' (by simp[AA.looks])).1
        rw[BT,if_pos (EU.2 ⟨by simpa using hkk,hk0⟩)]
        intro p' cs' d' hr' hs'
        rw[Fo,hroot] at hr'
        simp only[Option.map_some,zS,zP] at hr'
        obtain ⟨rfl,rfl,rfl⟩:=hr'
        obtain ⟨vs0,base0,el,rv,b,o,h1,h2,h3⟩:=hv p cs d hroot (by simpa using hst)
        exact ⟨vs0,base0,el,rv,b,o,F2 h1,h2,h3⟩
     ·exact hf
   | clo f caps =>
     rw[hg] at hs hlk0
     obtain ⟨hf,vs,h1,h2⟩:=hs
     simp only[AA.settle]
     split
     ·rename_i hall
      refine ⟨hf,vs,h1,Hy keep h2 fun c hc => ?_⟩
      rw[all_eq_true] at hall
      have hc' :=hall c hc
      simp only[zB] at hc'
      obtain ⟨c1,c2⟩:=hc'
      refine ⟨EU.2 ⟨by simpa using c1,(hlk0 c.1 (mem_map.2 ⟨c,hc,rfl⟩)).1⟩,?_⟩
      split at c2
      ·simp at c2
      ·rename_i p cs d hroot
       exact ⟨p,cs,d,hroot,by simpa using c2⟩
     ·exact hf
  ·rw[BT,if_neg hk]
   simp only[if_neg hk]
   rfl
 ·split
  ·exact h.nodup k
  ·simp
 ·split at hx
  ·split at hy
   ·exact h.disj j k hjk x hx y hy
   ·simp at hy
  ·simp at hx
 ·split at hf
  ·exact h.wok k f hf
  ·simp at hf
theorem HK.settle0 (h:HK C n w a σ) (keep:List Nat):HK C n w a (settle0 keep σ):=by
 obtain ⟨⟨h1,Lt,cv,fp,h2⟩,h3⟩:=h
 obtain ⟨Lt',fp',h4⟩:=Lo h2 keep
 exact ⟨⟨h1,Lt',cv,fp',h4⟩,h3⟩
structure Fx where
 w0:World
 Fz:Nat→Prop
 mfp:Fp
def BU.re (C:BU) (B:Fx):BU:=⟨C.P,C.E,B.w0,B.Fz,B.mfp,C.pinv,C.fx⟩
def BU.base (C:BU):Fx:=⟨C.w0,C.Fz,C.mfp⟩
structure BU.Up (C:BU) (B:Fx):Prop where
 ext:Ab C.w0 B.w0 C.Mut
 fz:∀ b,C.Fz b→B.Fz b
 turns:∀ y∈B.mfp,C.Ok y
theorem BU.Up.refl (C:BU):C.Up C.base:=⟨Ab.refl _ _,fun _ h=>h,fun y hy => .inr ⟨y,hy,rfl,Nat.le_refl _,Nat.le_refl _⟩⟩
theorem BU.Up.ok {C:BU} {B:Fx} (h:C.Up B) {f:Fe} (hf:(C.re B).Ok f):C.Ok f:=by
 rcases hf with hf | ⟨y,hy,e,h1,h2⟩
 ·exact .inl (Nat.le_trans h.ext.size hf)
 ·rcases h.turns y hy with k | ⟨z,hz,e',k1,k2⟩
  ·exact .inl (e ▸ k)
  ·exact .inr ⟨z,hz,e'.trans e,Nat.le_trans k1 h1,Nat.le_trans h2 k2⟩
theorem BU.Up.muts {C:BU} {B:Fx} (h:C.Up B) {b j:Nat} (hb:b<C.w0.heap.size) (hm:(C.re B).Mut b j):C.Mut b j:=by
 obtain ⟨y,hy,e,h1,h2⟩:=hm
 rcases h.turns y hy with k | ⟨z,hz,e',k1,k2⟩
 ·omega
 ·exact ⟨z,hz,e'.trans e,by omega,by omega⟩
theorem BU.Up.trans {C:BU} {B B':Fx} (h:C.Up B) (k:(C.re B).Up B'):C.Up B' :=
 ⟨h.ext.trans k.ext (fun _ _ h=>h) (fun _ _ hb hm=>h.muts hb hm),fun b hb=>k.fz b (h.fz b hb),fun y hy=>h.ok (k.turns y hy)⟩
theorem R.monoFz {ps ts vs fp} (h:R w Fz Lt g ps ts vs fp) (hF:∀ b,Fz b→Fz' b) (hp:∀ f∈fp,¬ Fz' f.b):R w Fz' Lt g ps ts vs fp :=
 h.mono (Ab.refl w (fun _ _=>False)) hF (fun _ _ h=>h) (by simp) (by simp) (fun f hf=>⟨by simp,hp f hf,h.noLtAbove f hf⟩)
theorem R.shareIn {ps ts vs fp} (h:R w Fz Lt g ps ts vs fp) (hn:(fp.map Fe.b).Nodup):∃ f',f'.Sublist fp∧∀ Fz':Nat→Prop,(∀ b,Fz b→Fz' b)→(∀ x∈fp,x ∉ f'→Fz' x.b)→(∀ x∈f',¬ Fz' x.b)→R w Fz' Lt g (Ei ps) ts vs f' :=by
 induction h with
 | nil=>exact ⟨[],by simp,fun _ _ _ _ => .nil⟩
 | leaf h _ ih =>
   obtain ⟨f',h1,h2⟩:=ih hn
   exact ⟨f',h1,fun Fz' a b c => .leaf h (h2 Fz' a b c)⟩
 | dead _ ih =>
   obtain ⟨f',h1,h2⟩:=ih hn
   exact ⟨f',h1,fun Fz' a b c => .dead (h2 Fz' a b c)⟩
 | @slE fl el a cap ps ts vs fp h _ ih =>
   obtain ⟨f',h1,h2⟩:=ih hn
   refine ⟨f',h1,fun Fz' a b c => ?_⟩
   cases fl with
   | own=>exact .slE h (h2 Fz' a b c)
   | shr=>exact .slE h (h2 Fz' a b c)
   | lent=>exact .slE h (h2 Fz' a b c)
 | slS h0 hb hz hn' hs hr hi _ _ ih =>
   obtain ⟨f',h1,h2⟩:=ih hn
   exact ⟨f',h1,fun Fz' a b c => .slS h0 hb (a _ hz) hn' hs hr (hi.monoFz a (by simp)) (h2 Fz' a b c)⟩
 | slL h0 hb hl hn' hs hr hi _ _ ih =>
   obtain ⟨f',h1,h2⟩:=ih hn
   exact ⟨f',h1,fun Fz' a b c => .slL h0 hb hl hn' hs hr (hi.monoFz a (by simp)) (h2 Fz' a b c)⟩
 | slX h _ ih =>
   obtain ⟨f',h1,h2⟩:=ih hn
   exact ⟨f',h1,fun Fz' a b c => .slX h (h2 Fz' a b c)⟩
 | @slH fl el a n cap ps ts vs fp _ ih =>
   obtain ⟨f',h1,h2⟩:=ih hn
   refine ⟨f',h1,fun Fz' a b c => ?_⟩
   cases fl <;>exact .slH (h2 Fz' a b c)
 | @slO b off n cap row e fr el cs vs' ps ts vs fp₁ fp₂ h0 hb hz hl hn' hs hr hf hi _ _ ih =>
   simp only[cons_append,map_cons,map_append,nodup_cons,nodup_append] at hn
   obtain ⟨hn1,hn2,hn3,hn4⟩:=hn
   obtain ⟨f',h1,h2⟩:=ih hn3
   refine ⟨⟨b,off,off+n * el.length,off+n * el.length,off+cap * el.length⟩::f',?_,fun Fz' a c d => ?_⟩
   ·exact .cons_cons _ (h1.trans (List.sublist_append_right _ _))
   ·have hne:∀ x:Fe,x∈fp₁∨x∈fp₂→x≠⟨b,off,off+n * el.length,off+n * el.length,off+cap * el.length⟩:=by
     rintro x hx rfl
     apply hn1
     rcases hx with hx | hx
     ·exact mem_append.2 (.inl (mem_map.2 ⟨_,hx,rfl⟩))
     ·exact mem_append.2 (.inr (mem_map.2 ⟨_,hx,rfl⟩))
    have hi' :=hi.share (g' :=g) (Lt' :=Lt) a (fun x hx=>c x (by simp[hx]) (by
     intro hm
     rw[mem_cons] at hm
     rcases hm with hm | hm
     ·exact hne x (.inl hx) hm
     ·exact hn4 _ (mem_map.2 ⟨x,hx,rfl⟩) _ (mem_map.2 ⟨x,h1.subset hm,rfl⟩) rfl))
    rw[E7] at hi'
    have:=R.slO (el:=shares el) (vs' :=vs') (by rw[AK];exact h0) hb (d _ (mem_cons_self ..)) (by rw[AK];exact hl) hn' (by rw[AK];exact hs) (by rw[AK];exact hr) hf hi'
     (h2 Fz' a (fun x hx hx'=>c x (by simp[hx]) (by
       intro hm
       rw[mem_cons] at hm
       rcases hm with hm | hm
       ·exact hne x (.inr hx) hm
       ·exact hx' hm)) (fun x hx=>d x (mem_cons_of_mem _ hx)))
    rw[AK] at this
    exact this
 | rfS h0 hb hz hs hr hi _ _ ih =>
   obtain ⟨f',h1,h2⟩:=ih hn
   exact ⟨f',h1,fun Fz' a b c => .rfS h0 hb (a _ hz) hs hr (hi.monoFz a (by simp)) (h2 Fz' a b c)⟩
 | rfL h0 hb hl hs hr hi _ _ ih =>
   obtain ⟨f',h1,h2⟩:=ih hn
   exact ⟨f',h1,fun Fz' a b c => .rfL h0 hb hl hs hr (hi.monoFz a (by simp)) (h2 Fz' a b c)⟩
 | @rfO b off row e fr el cs vs' ps ts vs fp₁ fp₂ h0 hb hz hl hs hr hf hi _ _ ih =>
   simp only[cons_append,map_cons,map_append,nodup_cons,nodup_append] at hn
   obtain ⟨hn1,hn2,hn3,hn4⟩:=hn
   obtain ⟨f',h1,h2⟩:=ih hn3
   refine ⟨⟨b,off,off+el.length,0,off+el.length⟩::fp₁++f',?_,fun Fz' a c d => ?_⟩
   ·exact .cons_cons _ (List.Sublist.append (List.Sublist.refl _) h1)
   ·exact .rfO h0 hb (d ⟨b,off,off+el.length,0,off+el.length⟩ (by simp)) hl hs hr hf (hi.monoFz a (fun x hx=>d x (by simp[hx])))
     (h2 Fz' a (fun x hx hx'=>c x (by simp[hx]) (by
       intro hm
       simp only[cons_append,mem_cons,mem_append] at hm
       rcases hm with rfl | hm | hm
       ·exact hn1 (mem_append.2 (.inr (mem_map.2 ⟨_,hx,rfl⟩)))
       ·exact hn4 _ (mem_map.2 ⟨x,hm,rfl⟩) _ (mem_map.2 ⟨x,hx,rfl⟩) rfl
       ·exact hx' hm)) (fun x hx=>d x (by simp[hx])))
 | rfX h _ ih =>
   obtain ⟨f',h1,h2⟩:=ih hn
   exact ⟨f',h1,fun Fz' a b c => .rfX h (h2 Fz' a b c)⟩
 | mvE _ ih =>
   obtain ⟨f',h1,h2⟩:=ih hn
   exact ⟨f',h1,fun Fz' a b c => .mvE (h2 Fz' a b c)⟩
 | @mvX g' el t v n cs vs' ps ts vs fp₁ fp₂ h hi _ _ ih =>
   simp only[map_append,nodup_append] at hn
   obtain ⟨hn2,hn3,hn4⟩:=hn
   obtain ⟨f',h1,h2⟩:=ih hn3
   refine ⟨fp₁++f',List.Sublist.append (List.Sublist.refl _) h1,fun Fz' a c d => ?_⟩
   exact .mvX h (hi.monoFz a (fun x hx=>d x (by simp[hx])))
     (h2 Fz' a (fun x hx hx'=>c x (by simp[hx]) (by
       intro hm
       rcases mem_append.1 hm with hm | hm
       ·exact hn4 _ (mem_map.2 ⟨x,hm,rfl⟩) _ (mem_map.2 ⟨x,hx,rfl⟩) rfl
       ·exact hx' hm)) (fun x hx=>d x (by simp[hx])))
 | @mvO b off n cap row e fr el cs vs' ps ts vs fp₁ fp₂ h0 hb hl hs hr hi _ _ ih =>
   simp only[map_append,nodup_append] at hn
   obtain ⟨hn2,hn3,hn4⟩:=hn
   obtain ⟨f',h1,h2⟩:=ih hn3
   refine ⟨fp₁++f',List.Sublist.append (List.Sublist.refl _) h1,fun Fz' a c d => ?_⟩
   exact .mvO h0 hb hl hs hr (hi.monoFz a (fun x hx=>d x (by simp[hx])))
     (h2 Fz' a (fun x hx hx'=>c x (by simp[hx]) (by
       intro hm
       rcases mem_append.1 hm with hm | hm
       ·exact hn4 _ (mem_map.2 ⟨x,hm,rfl⟩) _ (mem_map.2 ⟨x,hx,rfl⟩) rfl
       ·exact hx' hm)) (fun x hx=>d x (by simp[hx])))
 | @bldN b T e p ps ts vs fp hb hpp hz hl _ ih =>
   simp only[map_cons,nodup_cons] at hn
   obtain ⟨hn1,hn3⟩:=hn
   obtain ⟨f',h1,h2⟩:=ih hn3
   refine ⟨⟨b,0,2,0,2⟩::f',.cons_cons _ h1,fun Fz' a c d => ?_⟩
   exact .bldN hb hpp (d ⟨b,0,2,0,2⟩ (by simp)) hl (h2 Fz' a (fun x hx hx'=>c x (by simp[hx]) (by
    intro hm
    rcases mem_cons.1 hm with rfl | hm
    ·exact hn1 (mem_map.2 ⟨_,hx,rfl⟩)
    ·exact hx' hm)) (fun x hx=>d x (by simp[hx])))
 | @bldO b T e p c n cap cur bs ps ts vs fp hb hpp hz hl hc hzc hlc h0 hn' hm' hcs hbs _ ih =>
   simp only[map_cons,nodup_cons,mem_cons,not_or] at hn
   obtain ⟨⟨hn0,hn1⟩,hn2,hn3⟩:=hn
   obtain ⟨f',h1,h2⟩:=ih hn3
   refine ⟨⟨b,0,2,0,2⟩::⟨c,0,cap,0,cap+1⟩::f',.cons_cons _ (.cons_cons _ h1),fun Fz' a k d => ?_⟩
   exact .bldO hb hpp (d ⟨b,0,2,0,2⟩ (by simp)) hl hc (d ⟨c,0,cap,0,cap+1⟩ (by simp)) hlc h0 hn' hm' hcs hbs (h2 Fz' a (fun x hx hx'=>k x (by simp[hx]) (by
    intro hm
    simp only[mem_cons] at hm
    rcases hm with rfl | rfl | hm
    ·exact hn1 (mem_map.2 ⟨_,hx,rfl⟩)
    ·exact hn2 (mem_map.2 ⟨_,hx,rfl⟩)
    ·exact hx' hm)) (fun x hx=>d x (by simp[hx])))
 | fnv hi _ _ ih =>
   obtain ⟨f',h1,h2⟩:=ih hn
   exact ⟨f',h1,fun Fz' a b c => .fnv (hi.monoFz a (by simp)) (h2 Fz' a b c)⟩
theorem BZ (p:List Pm):(Ei p).length=p.length:=by simp[Ei]
theorem AR.reK {k:Nat} {s:AA} {f:Fp} {B:Fx} (h:AR C w Lt g cv env k f s) (hF:∀ b,C.Fz b→B.Fz b) (hf:∀ x∈f,¬ B.Fz x.b) (hl:∀ k'∈s.looks,AE env' k'=AE env k') :
  AR (C.re B) w Lt g cv env' k f s:=by
 cases s with
 | dead=>exact h
 | gone=>exact h
 | und=>exact h
 | val ag p cs d pin =>
   obtain ⟨vs,h1,h2,h3⟩:=h
   exact ⟨vs,h1,h2.monoFz hF hf,h3⟩
 | tup n=>exact h
 | box p cs d pin =>
   obtain ⟨h1,h2⟩:=h
   exact ⟨h1.monoFz hF hf,h2⟩
 | view k' pl =>
   obtain ⟨h1,h2⟩:=h
   exact ⟨h1,by rw[hl k' (by simp[AA.looks])];exact h2⟩
 | ptr k' pl =>
   obtain ⟨h1,h2⟩:=h
   exact ⟨h1,by rw[hl k' (by simp[AA.looks])];exact h2⟩
 | clo f caps =>
   obtain ⟨h1,vs,h2,h3⟩:=h
   refine ⟨h1,vs,h2,?_⟩
   have:∀ {caps:List (Nat × AO)} {vs:List Value},(∀ c∈caps,AE env' c.1=AE env c.1)→CJ w cv env caps vs→CJ w cv env' caps vs:=by
    intro caps
    induction caps with
    | nil=>intro vs _ h;cases vs <;>exact h
    | cons c caps ih =>
      intro vs hc h
      cases vs with
      | nil=>exact h.elim
      | cons v vs=>exact ⟨by rw[hc c (by simp)];exact h.1,ih (fun c' hc'=>hc c' (mem_cons_of_mem _ hc')) h.2⟩
   exact this (fun c hc=>hl c.1 (mem_map.2 ⟨c,hc,rfl⟩)) h3
theorem AR.froze {k:Nat} {s:AA} {f:Fp} (h:AR C w Lt g cv env k f s) (hn:(f.map Fe.b).Nodup) (m:Bool) :
  s.froze m=s∨∃ f',f'.Sublist f∧∀ (B:Fx) (env':List (Nat × AA)),(∀ b,C.Fz b→B.Fz b)→(∀ x∈f,x ∉ f'→B.Fz x.b)→(∀ x∈f',¬ B.Fz x.b)→AR (C.re B) w Lt g cv env' k f' (s.froze m):=by
 cases s with
 | val ag p cs d pin =>
   cases pin with
   | succ=>exact .inl rfl
   | zero =>
     right
     obtain ⟨vs,h1,h2,h3⟩:=h
     cases m with
     | false=>exact ⟨[],by simp,fun B env' a b c=>⟨vs,h1,h2.share a (fun x hx=>b x hx (by simp)),fun h=>absurd rfl h⟩⟩
     | true =>
       obtain ⟨f',q1,q2⟩:=h2.shareIn hn
       exact ⟨f',q1,fun B env' a b c=>⟨vs,h1,q2 B.Fz a b c,fun h=>absurd rfl h⟩⟩
 | box p cs d pin =>
   cases pin with
   | succ=>exact .inl rfl
   | zero =>
     right
     obtain ⟨h1,h2⟩:=h
     generalize hv:cv k=v at h1
     cases h1 with
     | @rfO b off row e fr _ _ vs' _ _ _ f1 f2 h0 hb hz hl hs hsz hf hi r =>
       cases r
       simp only[append_nil,map_cons,nodup_cons] at hn
       have hne:∀ x∈f1,x≠⟨b,off,off+p.length,0,off+p.length⟩:=by
        rintro x hx rfl
        exact hn.1 (mem_map.2 ⟨_,hx,rfl⟩)
       cases m with
       | false =>
         refine ⟨[⟨b,off,off+p.length,0,off+p.length⟩],by simp,fun B env' a c d'=>⟨?_,fun h=>absurd rfl h⟩⟩
         have:=R.rfO (el:=shares p) (cs:=cs) (vs' :=vs') (by rw[AK];exact h0) hb (d' ⟨b,off,off+p.length,0,off+p.length⟩ (by simp)) hl (by rw[AK];exact hs) (by rw[AK];exact hsz) (by rw[AK];exact hf)
          (hi.share (g' :=g) (Lt' :=Lt) a (fun x hx=>c x (by simp[hx]) (by simp only[mem_singleton];exact hne x hx))) (R.nil (w:=w) (Fz:=B.Fz) (Lt:=Lt) (g:=g))
         rw[AK] at this
         rw[hv];exact this
       | true =>
         obtain ⟨f',q1,q2⟩:=hi.shareIn hn.2
         refine ⟨⟨b,off,off+p.length,0,off+p.length⟩::f',by simpa using q1,fun B env' a c d'=>⟨?_,fun h=>absurd rfl h⟩⟩
         have:=R.rfO (el:=Ei p) (cs:=cs) (vs' :=vs') (by rw[BZ];exact h0) hb (d' ⟨b,off,off+p.length,0,off+p.length⟩ (by simp)) hl (by rw[BZ];exact hs) (by rw[BZ];exact hsz) (by rw[BZ];exact hf)
          (q2 B.Fz a (fun x hx hx'=>c x (by simp[hx]) (by
            intro hm
            rw[mem_cons] at hm
            rcases hm with hm | hm
            ·exact hne x hx hm
            ·exact hx' hm)) (fun x hx=>d' x (by simp[hx]))) (R.nil (w:=w) (Fz:=B.Fz) (Lt:=Lt) (g:=g))
         rw[BZ,append_nil] at this
         rw[hv];exact this
 | _=>exact .inl rfl
theorem Iq (m:Bool) (s:AA):(s.froze m).looks=s.looks∨s.froze m=s:=by
 cases s with
 | val ag p cs d pin=>cases pin <;>first | (left;rfl) | (right;rfl)
 | box p cs d pin=>cases pin <;>first | (left;rfl) | (right;rfl)
 | _=>right;rfl
theorem Nj (F:Nat→AA→AA) (hF:∀ k,F k .dead = .dead):∀ (env:List (Nat × AA)) (k:Nat),AE (env.map fun x=>(x.1,F x.1 x.2)) k=F k (AE env k)
 | [],k=>by simp[AE,hF]
 | x::env,k=>by
   simp only[map_cons,AE,Nj F hF env k]
   by_cases h:x.1=k
   ·simp[h]
   ·simp[h]
theorem L7 (keep:List Nat) (env:List (Nat × AA)) (k:Nat):DW keep env k .dead = .dead:=by
 unfold DW
 split
 ·rfl
 ·split <;>rfl
theorem DU (keep:List Nat) (τ:AS) (k:Nat):AE (C7 keep τ).env k=DW keep τ.env k (AE τ.env k) :=
 Nj (DW keep τ.env) (L7 keep τ.env) τ.env k
theorem Oh:∀ {env:List (Nat × AA)} {k:Nat},AE env k ≠ .dead→k∈env.map (·.1)
 | [],k,h=>absurd rfl h
 | x::env,k,h=>by
   simp only[AE] at h
   simp only[map_cons,mem_cons]
   split at h
   ·rename_i e;exact .inl e.symm
   ·exact .inr (Oh h)
theorem Mg:∀ {env:List (Nat × AA)} {k:Nat},AE env k ≠ .dead→(k,AE env k)∈env
 | [],k,h=>absurd rfl h
 | x::env,k,h=>by
   simp only[AE] at h ⊢
   split at h
   ·rename_i e;rw[if_pos e];subst e;exact mem_cons_self ..
   ·rename_i e;rw[if_neg e];exact mem_cons_of_mem _ (Mg h)
theorem LW {env:List (Nat × AA)} {j k:Nat} (h:k∈(AE env j).looks):Je env k=true:=by
 have hne:AE env j ≠ .dead:=by intro e;rw[e] at h;simp[AA.looks] at h
 unfold Je
 rw[any_eq_true]
 exact ⟨_,Mg hne,by rw[any_eq_true];exact ⟨k,h,by simp⟩⟩
theorem FY {keep:List Nat} {env:List (Nat × AA)} {k:Nat} {s:AA} (h:Je env k=true):DW keep env k s=s:=by
 unfold DW
 simp[h]
open Classical in
theorem J3 (h:BY C w a σ Lt cv fp) (keep:List Nat):∃ B fp',C.Up B∧BY (C.re B) w a (C7 keep σ) Lt cv fp' :=by
 have each:∀ k,∃ f',f'.Sublist (fp k)∧∀ (B:Fx),(∀ b,C.Fz b→B.Fz b)→(∀ x∈fp k,x ∉ f'→B.Fz x.b)→(∀ x∈f',¬ B.Fz x.b)→AR (C.re B) w Lt σ.g cv (C7 keep σ).env k f' (AE (C7 keep σ).env k):=by
  intro k
  rw[DU]
  have hlk:∀ k'∈(AE σ.env k).looks,AE (C7 keep σ).env k'=AE σ.env k' :=fun k' hk'=>by rw[DU,FY (LW hk')]
  have same:∃ f',f'.Sublist (fp k)∧∀ (B:Fx),(∀ b,C.Fz b→B.Fz b)→(∀ x∈fp k,x ∉ f'→B.Fz x.b)→(∀ x∈f',¬ B.Fz x.b)→AR (C.re B) w Lt σ.g cv (C7 keep σ).env k f' (AE σ.env k) :=
   ⟨fp k,List.Sublist.refl _,fun B a b c=>(h.slots k).reK a c hlk⟩
  have turn:∀ m,∃ f',f'.Sublist (fp k)∧∀ (B:Fx),(∀ b,C.Fz b→B.Fz b)→(∀ x∈fp k,x ∉ f'→B.Fz x.b)→(∀ x∈f',¬ B.Fz x.b)→AR (C.re B) w Lt σ.g cv (C7 keep σ).env k f' ((AE σ.env k).froze m):=by
   intro m
   rcases (h.slots k).froze (h.nodup k) m with e | ⟨f',h1,h2⟩
   ·rw[e];exact same
   ·exact ⟨f',h1,fun B=>h2 B _⟩
  unfold DW
  split
  ·exact turn false
  ·split
   ·exact turn true
   ·exact same
 have hch:=Classical.axiomOfChoice each
 obtain ⟨fp',hfp'⟩:=hch
 have hsub:∀ k x,x∈fp' k→x∈fp k:=fun k x hx=>(hfp' k).1.subset hx
 let mfp:Fp:=(σ.env.map (·.1)).flatMap fp'
 let Fz':Nat→Prop:=fun b=>C.Fz b∨∃ k,∃ x∈fp k,x ∉ fp' k∧x.b=b
 let B:Fx:=⟨w,Fz',mfp⟩
 have hin:∀ k x,x∈fp' k→x∈mfp:=by
  intro k x hx
  refine List.mem_flatMap.2 ⟨k,Oh ?_,hx⟩
  intro e
  have hs:=h.slots k
  rw[e] at hs
  have:fp k=[]:=hs
  have:=hsub k x hx
  simp_all
 have hback:∀ y∈mfp,∃ k,y∈fp' k:=fun y hy=>by
  obtain ⟨k,-,hk⟩:=List.mem_flatMap.1 hy
  exact ⟨k,hk⟩
 have hnot:∀ k,∀ x∈fp' k,¬ Fz' x.b:=by
  rintro k x hx (hz | ⟨k2,y,hy,hy',e⟩)
  ·exact ((h.fz _ hz).2:∀ y∈C.mfp,y.b≠x.b) |> fun hm=>by
    rcases h.wok k x (hsub k x hx) with h1 | ⟨y,hy,e,-⟩
    ·have:=(h.fz _ hz).1;omega
    ·exact hm y hy e
  ·by_cases hk:k=k2
   ·subst hk
    have:=Gw (h.nodup k) hy (hsub k x hx) e
    subst this
    exact hy' hx
   ·exact h.disj k k2 hk x (hsub k x hx) y hy e.symm
 refine ⟨B,fp',⟨h.ext,fun b hb => .inl hb,fun y hy => ?_⟩,⟨h.tmps,fun k => ?_,fun k => ?_,fun j k hjk x hx y hy=>h.disj j k hjk x (hsub j x hx) y (hsub k y hy),fun k f hf => .inr ⟨f,hin k f hf,rfl,Nat.le_refl _,Nat.le_refl _⟩,h.lt,fun j k hk => ?_,fun b hb=>⟨?_,fun y hy e => ?_⟩,Ab.refl _ _,h.size,h.laidNow (fun b hb => .inl hb)⟩⟩
 ·obtain ⟨k,hk⟩:=hback y hy
  exact h.wok k y (hsub k y hk)
 ·exact (hfp' k).2 B (fun b hb => .inl hb) (fun x hx hx' => .inr ⟨k,x,hx,hx',rfl⟩) (hnot k)
 ·exact (h.nodup k).sublist ((hfp' k).1.map _)
 ·have hk':k∈(AE σ.env j).looks:=by
   rw[DU] at hk
   unfold DW at hk
   split at hk
   ·rcases Iq false (AE σ.env j) with e | e <;>rw[e] at hk <;>exact hk
   ·split at hk
    ·rcases Iq true (AE σ.env j) with e | e <;>rw[e] at hk <;>exact hk
    ·exact hk
  rw[DU,FY (LW hk')]
  exact h.looks j k hk'
 ·rcases hb with hb | ⟨k,x,hx,-,rfl⟩
  ·exact Nat.lt_of_lt_of_le (h.fz b hb).1 h.ext.size
  ·exact ((h.slots k).inHeap hx).1
 ·obtain ⟨k,hk⟩:=hback y hy
  exact hnot k y hk (e ▸ hb)
theorem HK.settle (h:HK C n w a σ) (keep:List Nat):∃ B,C.Up B∧(JW keep=false→B.Fz=C.Fz)∧HK (C.re B) n w a (settle keep σ):=by
 have h0:=h.settle0 keep
 unfold Desk.settle
 cases hk:JW keep with
 | false=>exact ⟨C.base,BU.Up.refl C,fun _=>rfl,h0⟩
 | true =>
   obtain ⟨⟨h1,Lt,cv,fp,h2⟩,h3⟩:=h0
   obtain ⟨B,fp',hu,h4⟩:=J3 h2 keep
   exact ⟨B,hu,fun e=>by simp at e,⟨h1,Lt,cv,fp',h4⟩,h3⟩
theorem Nf {keep:List (Nat × List Nat)} (h:EY keep=true) (j:Nat):JW (A4 keep j)=false:=by
 induction keep with
 | nil=>rfl
 | cons x keep ih =>
   obtain ⟨i,k⟩:=x
   unfold EY at h
   simp only[all_cons,zB,Bool.not_eq_true'] at h
   simp only[A4]
   split
   ·exact h.1
   ·exact ih (by unfold EY;exact h.2)
def EL (n:Nat) (ks:List Nat):Code→Bool
 | .region _ ops _=>Jx n ks ops
 | .seq x y=>EL n ks x&&EL n ks y
 | .cond c x y=>(match c with | .tmp t=>Nat.blt t 1000000 | _=>true)&&EL n ks x&&EL n ks y
 | .block _ x=>EL n ks x
 | .loop x=>EL n ks x
 | _=>true
def Ex.toExit:Ex→Exit
 | .normal => .normal
 | .exit id => .exit id
 | .ret => .ret
theorem So (p:Nat→Prop) (h:∃ n,p n):∃ n,p n∧∀ m,p m→n≤m:=by
 obtain ⟨n,hn⟩:=h
 induction n using Nat.strongRecOn with
 | _ n ih =>
   by_cases hm:∃ m,m<n∧p m
   ·obtain ⟨m,h1,h2⟩:=hm
    exact ih m h1 h2
   ·refine ⟨n,hn,fun m h1 => ?_⟩
    rcases Nat.lt_or_ge m n with h | h
    ·exact absurd ⟨m,h,h1⟩ hm
    ·exact h
open Classical in
theorem PW {P:Program} {Q:Exit→Act→World→Prop} {c:Code} (I:Nat→Act→World→Prop) {N:Nat} (h₀:I N a w)
  (round:∀ m a w,I m a w→c.wp P (Exit.then (fun a' w'=>∃ m',m'<m∧I m' a' w') Q) a w):(Code.loop c).wp P Q a w:=by
 have hmin:∀ a w,(∃ m,I m a w)→∃ m,I m a w∧∀ m',I m' a w→m≤m' :=fun a w h=>So (fun m=>I m a w) h
 refine wp_loop (fun a w=>∃ m,I m a w) (fun a w=>if h:∃ m,I m a w then Classical.choose (hmin a w h) else 0) ⟨N,h₀⟩ fun a w h => ?_
 have hs:=Classical.choose_spec (hmin a w h)
 refine wp_mono (round _ a w hs.1) fun e a' w' hq => ?_
 cases e with
 | normal =>
   obtain ⟨m',h1,h2⟩:=hq
   refine ⟨⟨m',h2⟩,?_⟩
   rw[dif_pos h,dif_pos ⟨m',h2⟩]
   exact Nat.lt_of_le_of_lt ((Classical.choose_spec (hmin a' w' ⟨m',h2⟩)).2 m' h2) h1
 | _=>exact hq
def BU.On (C:BU) (keep:List (Nat × List Nat)) (B B':Fx):Prop:=(C.re B).Up B'∧(EY keep=true→B'.Fz=B.Fz)
theorem BU.On.refl (C:BU) (keep:List (Nat × List Nat)) (B:Fx):C.On keep B B:=⟨BU.Up.refl (C.re B),fun _=>rfl⟩
theorem BU.On.trans {C:BU} {keep:List (Nat × List Nat)} {B B' B'':Fx} (h:C.On keep B B') (k:C.On keep B' B''):C.On keep B B'' :=
 ⟨BU.Up.trans (C:=C.re B) h.1 k.1,fun e=>(k.2 e).trans (h.2 e)⟩
theorem HK.settleOn {C:BU} {keep:List (Nat × List Nat)} {B:Fx} (h:HK (C.re B) n w a σ) (j:Nat):∃ B',C.On keep B B'∧HK (C.re B') n w a (Desk.settle (A4 keep j) σ):=by
 obtain ⟨B',h1,h2,h3⟩:=h.settle (A4 keep j)
 exact ⟨B',⟨h1,fun e=>h2 (Nf e j)⟩,h3⟩
theorem NK {callF:Nat→List Am→Option By} {N:Nat} {keep:List (Nat × List Nat)} (hm:C.P.follows .mixedOrders=true) (hE:Bw C.P C.E) (hF:∀ f,FnOk C.P C.E.laid callF f):∀ {c:Code} {σ σ':AS} {ex:Ex} {a:Act} {w:World} {Q:Exit→Act→World→Prop} {B:Fx},
  AU C.E callF N keep c σ=some (ex,σ')→EL n (C.fx.map (·.1)) c=true→HK (C.re B) n w a σ→(∀ B' a' w',C.On keep B B'→HK (C.re B') n w' a' σ'→Q ex.toExit a' w')→c.wp C.P Q a w:=by
 intro c
 induction c with
 | skip =>
   intro σ σ' ex a w Q B h _ hs hQ
   simp only[AU,zS,zP] at h
   obtain ⟨rfl,rfl⟩:=h
   exact wp_skip (hQ B a w (.refl C keep B) hs)
 | region id ops draw =>
   intro σ σ' ex a w Q B h hc hs hQ
   simp only[AU,IN] at h
   split at h
   ·simp at h
   rename_i σ1 fs hrun
   split at h
   ·rename_i hr
    simp only[zS,zP] at h
    obtain ⟨rfl,rfl⟩:=h
    obtain ⟨B1,hB1,hs1⟩:=hs.settleOn (keep:=keep) id
    exact PR (C:=C.re B1) hm hrun hr hc hE hF hs1 (fun a' w' hs'=>hQ B1 a' w' hB1 hs')
   ·simp at h
 | seq x y ihx ihy =>
   intro σ σ' ex a w Q B h hc hs hQ
   simp only[EL,zB] at hc
   simp only[AU] at h
   split at h
   ·rename_i σ1 h1
    exact wp_seq (ihx h1 hc.1 hs fun B1 a' w' hB1 hs'=>ihy h hc.2 hs' fun B2 a2 w2 hB2 hs2=>hQ B2 a2 w2 (hB1.trans hB2) hs2)
   ·refine wp_seq (ihx h hc.1 hs fun B1 a' w' hB1 hs' => ?_)
    cases ex with
    | normal=>rename_i hn;exact absurd h (hn σ')
    | exit id=>exact hQ B1 a' w' hB1 hs'
    | ret=>exact hQ B1 a' w' hB1 hs'
 | cond c x y ihx ihy =>
   intro σ σ' ex a w Q B h hc hs hQ
   simp only[EL,zB] at hc
   simp only[AU] at h
   obtain ⟨⟨hdf,Lt,cv,fp,hst⟩,hfx⟩:=hs
   split at h
   ·rename_i b hb
    have hop:AT c:=by
     cases c with
     | tmp t=>simpa [AT] using hc.1.1
     | _=>trivial
    have hl:=Ai hst hop hb
    simp only[AG] at hl
    cases b with
    | true=>exact wp_cond_true hl (ihx h hc.1.2 ⟨⟨hdf,Lt,cv,fp,hst⟩,hfx⟩ hQ)
    | false=>exact wp_cond_false hl (ihy h hc.2 ⟨⟨hdf,Lt,cv,fp,hst⟩,hfx⟩ hQ)
   ·simp at h
 | block id x ih =>
   intro σ σ' ex a w Q B h hc hs hQ
   simp only[AU] at h
   split at h
   ·rename_i id' σ1 h1
    refine wp_block (ih h1 hc hs fun B1 a' w' hB1 hs' => ?_)
    simp only[Ex.toExit,Exit.inBlock]
    split at h
    ·rename_i e
     simp only[zS,zP] at h
     obtain ⟨rfl,rfl⟩:=h
     rw[if_pos e];exact hQ B1 a' w' hB1 hs'
    ·rename_i e
     simp only[zS,zP] at h
     obtain ⟨rfl,rfl⟩:=h
     rw[if_neg e];exact hQ B1 a' w' hB1 hs'
   ·refine wp_block (ih h hc hs fun B1 a' w' hB1 hs' => ?_)
    cases ex with
    | exit id'=>rename_i hn;exact absurd h (hn id' σ')
    | normal=>exact hQ B1 a' w' hB1 hs'
    | ret=>exact hQ B1 a' w' hB1 hs'
 | loop x ih =>
   intro σ σ' ex a w Q B h hc hs hQ
   simp only[AU] at h
   unfold F1 at h
   split at h
   ·simp at h
   rename_i ex0 σ0 h0
   simp only[zS,zP] at h
   obtain ⟨rfl,rfl⟩:=h
   obtain ⟨B0,hB0,hs0⟩:=hs.settleOn (keep:=keep) (BC x)
   refine PW (fun m a w=>∃ B1 σ,C.On keep B B1∧HK (C.re B1) n w a σ∧Hh m (Desk.settle (A4 keep (BC x))) (AU C.E callF N keep x) σ=some (ex0,σ0)) (N:=N) ⟨B0,_,hB0,hs0,h0⟩ fun m a w hI => ?_
   obtain ⟨B1,σ1,hB1,hs1,h1⟩:=hI
   cases m with
   | zero=>simp[Hh] at h1
   | succ m =>
     simp only[Hh] at h1
     split at h1
     ·rename_i σ2 h2
      refine ih h2 hc hs1 fun B2 a' w' hB2 hs' => ?_
      obtain ⟨B3,hB3,hs3⟩:=hs'.settleOn (keep:=keep) (BC x)
      exact ⟨m,Nat.lt_succ_self m,B3,_,(hB1.trans hB2).trans hB3,hs3,h1⟩
     ·refine ih h1 hc hs1 fun B2 a' w' hB2 hs' => ?_
      obtain ⟨B3,hB3,hs3⟩:=hs'.settleOn (keep:=keep) (Hw x)
      cases ex0 with
      | normal=>rename_i hn;exact absurd h1 (hn σ0)
      | exit id=>exact hQ B3 a' w' ((hB1.trans hB2).trans hB3) hs3
      | ret=>exact hQ B3 a' w' ((hB1.trans hB2).trans hB3) hs3
 | exit id =>
   intro σ σ' ex a w Q B h _ hs hQ
   simp only[AU,zS,zP] at h
   obtain ⟨rfl,rfl⟩:=h
   exact wp_exit (hQ B a w (.refl C keep B) hs)
 | ret =>
   intro σ σ' ex a w Q B h _ hs hQ
   simp only[AU,zS,zP] at h
   obtain ⟨rfl,rfl⟩:=h
   exact wp_ret (hQ B a w (.refl C keep B) hs)
 | _=>intro σ σ' ex a w Q B h;simp[AU] at h
end
def LN:Nat→List BX→List Nat
 | _,[]=>[]
 | i,.iop::ms=>i::LN (i+1) ms
 | i,_::ms=>LN (i+1) ms
def Dq (E:AX):List ResultVar→List (Nat × Option (Bool × Nat))→Bool
 | [],[]=>true
 | .tmp t::rs,(t',none)::r=>t==t'&&Dq E rs r
 | .cell a t::rs,(a',some (ag,n))::r=>a==a'&&(match E.ty t with
   | some d=>d.agg==ag&&d.sz==n
   | none=>false)&&Dq E rs r
 | _,_=>false
def Od (E:AX) (fn:Func) (c:Code) (modes:List BX) (outs:List Nat) (results:List (Nat × Option (Bool × Nat))):Bool :=
 Nat.ble modes.length fn.ntmps&&Nat.ble fn.ntmps 1000000&&EL fn.ntmps (LN 0 modes) c&&Dq E fn.results.toList results&&(results.map (·.1)++outs).all (fun t=>Nat.blt t 1000000)
def R4 (P:Program) (f:Nat) (h:List T→Option (List (Bool × List Pm × List T))):Prop :=
 ∀ ts rs,h ts=some rs→∀ (w:World) (Fz:Nat→Prop) (az:List Am) (xs:List Value),Bz w Fz az xs []→(az.all EP)=true→(az.flatMap fun a=>a.v.cs)=ts →
  ∃ v w',(callFunc f xs.toArray).run P w = .ok (.value v) w'∧Ab w w' (fun _ _=>False)∧∃ fr,NQ w' Fz noLt 0 (rs.map fun x=>⟨x.1,x.2.1,x.2.2⟩) v fr∧(fr.flatten.map Fe.b).Nodup∧∀ x∈fr.flatten,w.heap.size≤x.b
def SK (h:List T→Option (List (Bool × List Pm × List T))) (az:List Am):Option By:=if az.all EP then (match h (az.flatMap fun a=>a.v.cs) with
 | none=>none
 | some rs=>some ⟨rs.map fun x=>⟨x.1,x.2.1,x.2.2⟩,az.map fun _=>none⟩) else none
def LA (P:Program) (L:List String) (f:Nat) (h:List T→Option (List (Bool × List Pm × List T))):Prop:=FnOk P L (fun _ az=>SK h az) f
theorem LA.any {P:Program} {L:List String} {f:Nat} {h:List T→Option (List (Bool × List Pm × List T))} (k:LA P [] f h):LA P L f h :=
 fun az r e w Fz xs mfp hA hn hF _=>k az r e w Fz xs mfp hA hn hF Laid.none
def Dk (P:Program) (E:AX) (f:Nat):FD→Prop
 | .code c modes outs results _ => ∃ fn, P.funcs[f]? = some fn ∧ (fn.name == "runtime.NumGoroutine") = false ∧ fn.body = some c ∧ Od E fn c modes outs results = true
 | .ext h=>LA P E.laid f h
 | .sem _ h=>FnOk P E.laid (fun _ az=>h az) f
section
variable {C:BU} {w w':World} {a a':Act} {σ τ:AS} {Lt Lt':Nat→Nat→Prop} {cv cv':Nat→Value} {fp fpU:Nat→Fp} {g g' n:Nat} {env env':List (Nat × AA)} {o:Oper} {Fz Fz':Nat→Prop}
def RO (w:World) (Fz:Nat→Prop) (arg:Am) (x:Value) (f:Fp):Prop:=match arg.m with
 | .val=>f=[]∧∃ vs,AD arg.v.agg x vs∧R w Fz noLt 0 arg.v.p arg.v.cs vs f
 | .io=>∃ vs,AD arg.v.agg x vs∧R w Fz noLt 0 arg.v.p arg.v.cs vs f
 | .iop=>∃ p cs,arg.v=⟨false,[.rf .own p],[.ref cs]⟩∧R w Fz noLt 0 [.rf .own p] [.ref cs] [x] f
theorem Bz.list {az xs mfp} (h:Bz w Fz az xs mfp):xs.length=az.length∧∃ fs:List Fp,fs.length=az.length∧fs.flatten=mfp∧∀ (i:Nat) arg,az[i]?=some arg→∃ x f,xs[i]?=some x∧fs[i]?=some f∧RO w Fz arg x f:=by
 induction h with
 | nil=>exact ⟨rfl,[],rfl,rfl,by simp⟩
 | @val v x vs az xs fs hc hR r ih =>
   obtain ⟨l,gs,h1,h2,h3⟩:=ih
   refine ⟨by simp[l],[]::gs,by simp[h1],by simp[h2],fun i arg hi => ?_⟩
   cases i with
   | zero =>
     simp only[List.getElem?_cons_zero,zS] at hi
     subst hi
     exact ⟨x,[],rfl,rfl,rfl,vs,hc,hR⟩
   | succ i=>simpa using h3 i arg (by simpa using hi)
 | @io v x vs f az xs fs hc hR r ih =>
   obtain ⟨l,gs,h1,h2,h3⟩:=ih
   refine ⟨by simp[l],f::gs,by simp[h1],by simp[h2],fun i arg hi => ?_⟩
   cases i with
   | zero =>
     simp only[List.getElem?_cons_zero,zS] at hi
     subst hi
     exact ⟨x,f,rfl,rfl,vs,hc,hR⟩
   | succ i=>simpa using h3 i arg (by simpa using hi)
 | @iop p cs x f az xs fs hR r ih =>
   obtain ⟨l,gs,h1,h2,h3⟩:=ih
   refine ⟨by simp[l],f::gs,by simp[h1],by simp[h2],fun i arg hi => ?_⟩
   cases i with
   | zero =>
     simp only[List.getElem?_cons_zero,zS] at hi
     subst hi
     exact ⟨x,f,rfl,rfl,p,cs,rfl,hR⟩
   | succ i=>simpa using h3 i arg (by simpa using hi)
def cellsOf (ag:Bool) (x:Value):List Value:=if ag then (match x with | .agg vs=>vs.toList | _=>[]) else [x]
theorem Jb {ag:Bool} {x:Value} {vs:List Value} (h:AD ag x vs):cellsOf ag x=vs:=by
 cases ag
 ·simp only[AD,Bool.false_eq_true,if_false] at h;simp[cellsOf,h]
 ·simp only[AD,if_true] at h;simp[cellsOf,h]
theorem G5:∀ (az:List Am) (s k:Nat),AE (Ft s az) k=match (if s≤k then az[k - s]? else none) with | some arg=>Hq k arg | none => .dead
 | [],s,k=>by simp[Ft,AE]
 | a::az,s,k=>by
   simp only[Ft,AE,G5 az (s+1) k]
   by_cases h:s=k
   ·subst h;simp
   ·rw[if_neg h]
    by_cases h1:s≤k
    ·have h2:s+1≤k:=by omega
     rw[if_pos h1,if_pos h2,show k - s=(k - (s+1))+1 by omega,List.getElem?_cons_succ]
    ·rw[if_neg h1,if_neg (by omega)]
theorem KU (i:Nat) (arg:Am):(Hq i arg).looks=[]:=by
 obtain ⟨m,v⟩:=arg
 cases m <;>simp only[Hq] <;>try rfl
 split <;>rfl
def JK:Nat→List Am→List Value→List (Nat × Value)
 | i,a::az,x::xs=>(match a.m with | .iop=>[(i,x)] | _=>[])++JK (i+1) az xs
 | _,_,_=>[]
theorem GQ:∀ {ms:List BX} {az:List Am},CO ms az=true→ms.length=az.length∧ms=az.map (·.m)
 | [],[],_=>⟨rfl,rfl⟩
 | [],_::_,h=>by simp[CO] at h
 | _::_,[],h=>by simp[CO] at h
 | m::ms,a::az,h=>by
   simp only[CO,zB] at h
   obtain ⟨h1,h2⟩:=GQ h.2
   have:m=a.m:=by
    have:=h.1
    cases m <;>cases hm:a.m <;>simp[BX.beq,hm] at this <;>rfl
   exact ⟨by simp[h1],by simp[h2,this]⟩
theorem LB:∀ {az:List Am} {xs:List Value} (i:Nat),xs.length=az.length→(JK i az xs).map (·.1)=LN i (az.map (·.m))
 | [],[],i,_=>rfl
 | [],_::_,_,h=>by simp at h
 | _::_,[],_,h=>by simp at h
 | a::az,x::xs,i,h=>by
   have ih:=LB (az:=az) (xs:=xs) (i+1) (by simpa using h)
   simp only[JK,map_append,ih,map_cons]
   cases hm:a.m <;>simp[LN]
theorem NH:∀ {az:List Am} {xs:List Value} {i:Nat} {kx:Nat × Value},kx∈JK i az xs→i≤kx.1∧xs[kx.1 - i]?=some kx.2
 | [],xs,i,kx,h=>by cases xs <;>simp[JK] at h
 | _::_,[],i,kx,h=>by simp[JK] at h
 | a::az,x::xs,i,kx,h=>by
   simp only[JK,mem_append] at h
   rcases h with h | h
   ·cases hm:a.m <;>simp[hm] at h
    subst h
    simp
   ·obtain ⟨h1,h2⟩:=NH h
    refine ⟨by omega,?_⟩
    rw[show kx.1 - i=(kx.1 - (i+1))+1 by omega]
    simpa using h2
theorem Mh:∀ {az:List Am} {xs:List Value} {i j:Nat} {arg:Am} {x:Value},az[j]?=some arg→arg.m = .iop→xs[j]?=some x→(i+j,x)∈JK i az xs
 | [],xs,i,j,arg,x,h,_,_=>by simp at h
 | _::_,[],i,j,arg,x,_,_,h=>by simp at h
 | a::az,y::xs,i,j,arg,x,h,hm,hx=>by
   simp only[JK,mem_append]
   cases j with
   | zero =>
     simp only[List.getElem?_cons_zero,zS] at h hx
     subst h hx
     left;simp[hm]
   | succ j =>
     right
     have:=Mh (i:=i+1) (az:=az) (xs:=xs) (j:=j) (by simpa using h) hm (by simpa using hx)
     rwa [show i+1+j=i+(j+1) by omega] at this
def GV (P:Program) (E:AX) (w:World) (Fz:Nat→Prop) (az:List Am) (xs:List Value) (mfp:Fp):BU where
 P:=P
 E:=E
 w0:=w
 Fz:=Fz
 mfp:=mfp
 pinv:=fun p=>match az[p - 1]?,xs[p - 1]? with
  | some a,some x=>cellsOf a.v.agg x
  | _,_=>[]
 fx:=JK 0 az xs
theorem JD {xs:List Value} {nt k:Nat}:(xs.toArray++Array.replicate (nt - xs.toArray.size) undef).getD k undef=xs.getD k undef:=by
 rw[Array.getD_eq_getD_getElem?,Array.getElem?_append,List.getD_eq_getElem?_getD]
 split
 ·simp
 ·rename_i h
  have h':xs.length≤k:=by simpa using h
  rw[Array.getElem?_replicate,List.getElem?_eq_none h']
  split <;>rfl
theorem P8 {P:Program} {E:AX} {nt:Nat} {az:List Am} {xs:List Value} {mfp:Fp} (hA:Bz w Fz az xs mfp) (hn:(mfp.map Fe.b).Nodup) (hF:∀ b,Fz b→b<w.heap.size) (hLd:Laid P E.laid w Fz) (h1:az.length≤nt) (h2:nt≤1000000) :
  HK (GV P E w Fz az xs mfp) nt w { tmps:=xs.toArray++Array.replicate (nt - xs.toArray.size) undef,defers:=[] } ⟨Ft 0 az,0⟩:=by
 obtain ⟨hl,fs,hfl,rfl,hargs⟩:=hA.list
 have hsz:(xs.toArray++Array.replicate (nt - xs.toArray.size) undef).size=nt:=by simp;omega
 have hfd:∀ i f,fs[i]?=some f→∀ x∈f,x∈fs.flatten:=fun i f hi x hx=>mem_flatten.2 ⟨f,List.mem_of_getElem? hi,hx⟩
 have hfg:∀ k,fs.getD k []=(fs[k]?).getD []:=fun k=>List.getD_eq_getElem?_getD
 have hmz:∀ y∈fs.flatten,¬ Fz y.b:=by
  intro y hy
  obtain ⟨f,hf,hyf⟩:=mem_flatten.1 hy
  obtain ⟨i,hi⟩:=List.mem_iff_getElem?.1 hf
  have hia:i<az.length:=by
   have:=(List.getElem?_eq_some_iff.1 hi).1;omega
  obtain ⟨x,f',hx,hf',hR⟩:=hargs i _ (List.getElem?_eq_getElem hia)
  rw[hi] at hf'
  obtain rfl:=Option.some.inj hf'
  unfold RO at hR
  split at hR
  ·rw[hR.1] at hyf;simp at hyf
  ·obtain ⟨vs,-,hR⟩:=hR;exact (hR.lt y hyf).2.2.2
  ·obtain ⟨p,cs,-,hR⟩:=hR;exact (hR.lt y hyf).2.2.2
 refine ⟨⟨rfl,noLt,fun k=>if k<1000000 then xs.getD k undef else undef,fun k=>fs.getD k [],?_⟩,hsz,fun kx hkx => ?_⟩
 ·refine ⟨fun k hk => ?_,fun k => ?_,fun k => ?_,fun j k hjk x hx y hy => ?_,fun k f hf => ?_,fun _ _ h=>h.elim,fun j k hk => ?_,fun b hb=>⟨hF b hb,fun y hy e=>hmz y hy (e ▸ hb)⟩,Ab.refl _ _,?_,hLd⟩
  ·show (if k<1000000 then _ else _)=_
   rw[if_pos hk,JD]
  ·simp only[G5,Nat.zero_le,if_true,Nat.sub_zero]
   cases ha:az[k]? with
   | none =>
     have:az.length≤k:=by
      rcases Nat.lt_or_ge k az.length with h | h
      ·rw[List.getElem?_eq_getElem h] at ha;simp at ha
      ·exact h
     show fs.getD k []=[]
     rw[hfg,List.getElem?_eq_none (by omega)];rfl
   | some arg =>
     have hk:k<az.length:=(List.getElem?_eq_some_iff.1 ha).1
     obtain ⟨x,f,hx,hf,hR⟩:=hargs k arg ha
     have hcv:(if k<1000000 then xs.getD k undef else undef)=x:=by
      rw[if_pos (by omega),List.getD_eq_getElem?_getD,hx];rfl
     have hfk:fs.getD k []=f:=by rw[hfg,hf];rfl
     have hpin:(GV P E w Fz az xs fs.flatten).pinv (k+1)=cellsOf arg.v.agg x:=by
      simp only[GV,Nat.add_sub_cancel,ha,hx]
     obtain ⟨m,v⟩:=arg
     unfold RO at hR
     cases m with
     | val =>
       simp only at hR
       obtain ⟨hf0,vs,hc,hR⟩:=hR
       rw[hfk]
       exact ⟨vs,by simp only[hcv];exact hc,hR,fun h=>absurd rfl h⟩
     | io =>
       simp only at hR
       obtain ⟨vs,hc,hR⟩:=hR
       rw[hfk]
       exact ⟨vs,by simp only[hcv];exact hc,hR,fun _=>by rw[hpin];exact Jb hc⟩
     | iop =>
       simp only at hR
       obtain ⟨p,cs,rfl,hR⟩:=hR
       rw[hfk]
       simp only[Hq,Js]
       exact ⟨by simp only[hcv];exact hR,fun h=>absurd rfl h⟩
  ·simp only[hfg]
   cases hf:fs[k]? with
   | none=>simp
   | some f=>exact ED hn hf
  ·simp only[hfg] at hx hy
   cases h1:fs[j]? with
   | none=>simp[h1] at hx
   | some f =>
     cases h2:fs[k]? with
     | none=>simp[h2] at hy
     | some f' =>
       simp only[h1,Option.getD_some] at hx
       simp only[h2,Option.getD_some] at hy
       exact EM hn h1 h2 hjk x hx y hy
  ·simp only[hfg] at hf
   cases h1:fs[k]? with
   | none=>simp[h1] at hf
   | some f' =>
     simp only[h1,Option.getD_some] at hf
     exact .inr ⟨f,hfd k f' h1 f hf,rfl,Nat.le_refl _,Nat.le_refl _⟩
  ·simp only[G5] at hk
   split at hk
   ·rw[KU] at hk;simp at hk
   ·simp[AA.looks] at hk
  ·show (xs.toArray++Array.replicate (nt - xs.toArray.size) undef).size≤1000000
   rw[hsz];exact h2
 ·obtain ⟨-,h3⟩:=NH (i:=0) hkx
  show (xs.toArray++Array.replicate (nt - xs.toArray.size) undef).getD kx.1 undef=kx.2
  rw[JD,List.getD_eq_getElem?_getD]
  rw[Nat.sub_zero] at h3
  rw[h3];rfl
theorem Iv (h:BY C w a σ Lt cv fp):∀ {ps:List (Nat × Fp)},(ps.map (·.1)).Nodup→(∀ x∈ps,(∀ y∈x.2,y∈fp x.1)∧(x.2.map Fe.b).Nodup)→(((ps.map (·.2)).flatten).map Fe.b).Nodup
 | [],_,_=>by simp
 | p::ps,hn,hf=>by
   simp only[map_cons,nodup_cons] at hn
   simp only[map_cons,flatten_cons,map_append,nodup_append]
   obtain ⟨h1,h2⟩:=hf p (by simp)
   refine ⟨h2,Iv h hn.2 fun x hx=>hf x (mem_cons_of_mem _ hx),fun b hb b' hb' e => ?_⟩
   obtain ⟨x,hx,rfl⟩:=mem_map.1 hb
   obtain ⟨y,hy,rfl⟩:=mem_map.1 hb'
   obtain ⟨f,hf',hyf⟩:=mem_flatten.1 hy
   obtain ⟨q,hq,rfl⟩:=mem_map.1 hf'
   have hne:p.1≠q.1:=fun e=>hn.1 (e ▸ mem_map.2 ⟨q,hq,rfl⟩)
   exact h.disj p.1 q.1 hne x (h1 x hx) y ((hf q (mem_cons_of_mem _ hq)).1 y hyf) e
def Lg (tmps:Array Value):ResultVar→Sem Value
 | .tmp t=>pure (tmps.getD t undef)
 | .cell x t=>do loadVar t (← asAddr (tmps.getD x undef))
theorem Fw (h:BY C w a σ Lt cv fp) (hE:Bw C.P C.E):∀ {l:List ResultVar} {results:List (Nat × Option (Bool × Nat))} {rs:List V},Dq C.E l results=true→(∀ t∈results.map (·.1),t<1000000)→K8 σ.env results=some rs →
  ∃ vs fs,(l.mapM (Lg a.tmps)).run C.P w = .ok vs w∧Dy w C.Fz Lt σ.g rs vs fs ∧
   ∃ ps:List (Nat × Fp),ps.map (·.1)=results.map (·.1)∧ps.map (·.2)=fs∧∀ x∈ps,(∀ y∈x.2,y∈fp x.1)∧(x.2.map Fe.b).Nodup
 | [],[],rs,_,_,hr=>by
   simp only[K8,zS] at hr
   subst hr
   exact ⟨[],[],rfl,.nil,[],rfl,rfl,by simp⟩
 | [],_::_,rs,ht,_,_=>by simp[Dq] at ht
 | .tmp t::l,[],rs,ht,_,_=>by simp[Dq] at ht
 | .cell x t::l,[],rs,ht,_,_=>by simp[Dq] at ht
 | .tmp t::l,(t',some c)::results,rs,ht,_,_=>by simp[Dq] at ht
 | .cell x t::l,(t',none)::results,rs,ht,_,_=>by simp[Dq] at ht
 | .tmp t::l,(t',none)::results,rs,ht,hlt,hr=>by
   simp only[Dq,zB,beq_iff_eq] at ht
   obtain ⟨rfl,ht⟩:=ht
   simp only[K8] at hr
   split at hr
   ·simp at hr
   rename_i v hv
   split at hr
   ·simp at hr
   rename_i vs1 hvs
   simp only[zS] at hr
   subst hr
   obtain ⟨vs,fs,h1,h2,ps,h3,h4,h5⟩:=Fw h hE ht (fun t ht=>hlt t (by simp only[map_cons,mem_cons];exact .inr ht)) hvs
   have ht0:t<1000000:=hlt t (by simp)
   have hs:=h.slots t
   have hone:∃ us f,AD v.agg (cv t) us∧R w C.Fz Lt σ.g v.p v.cs us f∧f=fp t:=by
    unfold SA at hv
    split at hv
    ·rename_i hg
     rw[hg] at hs
     simp only[zS] at hv
     subst hv
     obtain ⟨us,c1,c2,-⟩:=hs
     exact ⟨us,_,c1,c2,rfl⟩
    ·rename_i hg
     rw[hg] at hs
     simp only[zS] at hv
     subst hv
     exact ⟨[cv t],_,by simp[AD],hs.1,rfl⟩
    ·simp_all
    ·simp at hv
   obtain ⟨us,f,c1,c2,rfl⟩:=hone
   refine ⟨cv t::vs,fp t::fs,?_,.cons c1 c2 h2,(t,fp t)::ps,by simp[h3],by simp[h4],fun x hx => ?_⟩
   ·simp only[mapM_cons,Lg,Sem.run_bind,Sem.run_pure,Result.andThen_ok,h1,h.tmps t ht0]
   ·rw[mem_cons] at hx
    rcases hx with rfl | hx
    ·exact ⟨fun _ hy=>hy,h.nodup t⟩
    ·exact h5 x hx
 | .cell x t::l,(t',some (ag,n))::results,rs,ht,hlt,hr=>by
   simp only[Dq,zB,beq_iff_eq] at ht
   obtain ⟨⟨rfl,hty⟩,ht⟩:=ht
   split at hty
   ·rename_i d hd
    simp only[zB,beq_iff_eq] at hty
    obtain ⟨rfl,rfl⟩:=hty
    simp only[K8] at hr
    split at hr
    ·simp at hr
    rename_i v hv
    split at hr
    ·simp at hr
    rename_i vs1 hvs
    simp only[zS] at hr
    subst hr
    obtain ⟨vs,fs,h1,h2,ps,h3,h4,h5⟩:=Fw h hE ht (fun t ht=>hlt t (by simp only[map_cons,mem_cons];exact .inr ht)) hvs
    have ht0:x<1000000:=hlt x (by simp)
    have hs:=h.slots x
    unfold SA at hv
    split at hv
    ·simp_all
    ·simp_all
    ·rename_i a1 n1 p cs dd hcell hg
     simp only[zS,zP] at hcell
     obtain ⟨rfl,rfl⟩:=hcell
     split at hv
     ·rename_i hpl
      have hpl:p.length=d.sz:=by simpa using hpl
      simp only[zS] at hv
      subst hv
      obtain ⟨vs0,base0,fI,hrv,hR,hsub,hk⟩:=hs.rootR (s:=AE σ.env x) (p:=p) (cs:=cs) (d:=dd) (by rw[hg];rfl)
      rcases hk with ⟨_,_,e,_⟩ | ⟨pin,b,off,row,e,fr,e1,e2,hcv,hb,e3,hsz,hfp,-⟩
      ·rw[hg] at e;simp at e
      ·obtain ⟨u,k1,k2⟩:=Fs (P:=C.P) (E:=C.E) (t:=t) (hE t d hd) hb (by omega:off+d.sz≤row.size)
       have hnI:(fI.map Fe.b).Nodup:=by
        have:=h.nodup x
        rw[hfp] at this
        simp only[map_cons,nodup_cons] at this
        exact this.2
       refine ⟨u::vs,fI::fs,?_,.cons k2 (by rw[← hpl,← e3];exact hR) h2,(x,fI)::ps,by simp[h3],by simp[h4],fun y hy => ?_⟩
       ·have ha:∀ ad,asAddr (.pointer (some ad))=(pure ad:Sem Addr):=fun _=>rfl
        simp only[mapM_cons,Lg,Sem.run_bind,Sem.run_pure,Result.andThen_ok,h1,← h.tmps x ht0,hcv,ha,k1]
       ·rw[mem_cons] at hy
        rcases hy with rfl | hy
        ·exact ⟨hsub,hnI⟩
        ·exact h5 y hy
     ·simp at hv
    ·simp at hv
   ·simp at hty
end
section
variable {C:BU} {w w':World} {a a':Act} {σ τ:AS} {Lt Lt':Nat→Nat→Prop} {cv cv':Nat→Value} {fp fpU:Nat→Fp} {g g' n:Nat} {env env':List (Nat × AA)} {o:Oper} {Fz Fz':Nat→Prop}
theorem E6 (h:BY C w a σ Lt cv fp):∀ {az:List Am} {xs:List Value} {i:Nat} {outs:List Nat} {os:List (Option V)},xs.length=az.length →
  (∀ j arg,az[j]?=some arg→∃ x,xs[j]?=some x∧(arg.m = .io→∃ vs,AD arg.v.agg x vs∧C.pinv (i+j+1)=vs)∧(arg.m = .iop→cv (i+j)=x)) →
  Gc σ.env i (az.map (·.m)) outs=some os →
  ∃ fo,C2 w C.Fz Lt σ.g az xs os fo∧∃ ps:List (Nat × Fp),(ps.map (·.1)).Sublist outs∧(ps.map (·.2)).flatten=fo∧∀ x∈ps,(∀ y∈x.2,y∈fp x.1)∧(x.2.map Fe.b).Nodup
 | [],xs,i,outs,os,hl,_,ho=>by
   have:xs=[]:=length_eq_zero_iff.1 hl
   subst this
   simp only[map_nil,Gc,zS] at ho
   subst ho
   exact ⟨[],.nil,[],by simp,rfl,by simp⟩
 | _::_,[],i,outs,os,hl,_,_=>by simp at hl
 | ⟨m,v⟩::az,x::xs,i,outs,os,hl,ha,ho=>by
   have hl':xs.length=az.length:=by simpa using hl
   have ha':∀ j arg,az[j]?=some arg→∃ x,xs[j]?=some x∧(arg.m = .io→∃ vs,AD arg.v.agg x vs∧C.pinv (i+1+j+1)=vs)∧(arg.m = .iop→cv (i+1+j)=x):=by
    intro j arg hj
    obtain ⟨x',h1,h2,h3⟩:=ha (j+1) arg (by simpa using hj)
    refine ⟨x',by simpa using h1,?_,?_⟩
    ·intro hm;have:=h2 hm;rwa [show i+(j+1)+1=i+1+j+1 by omega] at this
    ·intro hm;have:=h3 hm;rwa [show i+(j+1)=i+1+j by omega] at this
   obtain ⟨x0,hx0,hio,hiop⟩:=ha 0 ⟨m,v⟩ rfl
   simp only[List.getElem?_cons_zero,zS] at hx0
   subst hx0
   rw[Nat.add_zero] at hio hiop
   cases m with
   | val =>
     simp only[map_cons,Gc] at ho
     split at ho
     ·simp at ho
     rename_i vs hvs
     simp only[zS] at ho
     subst ho
     obtain ⟨fo,h1,h2⟩:=E6 h hl' ha' hvs
     exact ⟨fo,.val h1,h2⟩
   | io =>
     cases outs with
     | nil=>simp[Gc] at ho
     | cons t ts =>
       simp only[map_cons,Gc] at ho
       split at ho
       ·simp at ho
       rename_i ov hov
       split at ho
       ·simp at ho
       rename_i vs hvs
       simp only[zS] at ho
       subst ho
       obtain ⟨fo,h1,ps,h2,h3,h4⟩:=E6 h hl' ha' hvs
       obtain ⟨us,hc,hpin⟩:=hio rfl
       have hs:=h.slots t
       have key:∃ f,R w C.Fz Lt σ.g ov.p ov.cs us f∧(∀ y∈f,y∈fp t)∧(f.map Fe.b).Nodup:=by
        unfold SP at hov
        split at hov
        ·rename_i hg
         split at hov
         ·rename_i hp
          simp only[zS] at hov
          subst hov
          rw[hg] at hs
          obtain ⟨us',c1,c2,c3⟩:=hs
          have:=c3 (by omega)
          rw[hp,hpin] at this
          subst this
          exact ⟨_,c2,fun _ h=>h,h.nodup t⟩
         ·simp at hov
        ·rename_i p cs dd pin _ hg
         split at hov
         ·rename_i hp
          simp only[zS] at hov
          subst hov
          obtain ⟨vs0,base0,fI,hrv,hR,hsub,hk⟩:=hs.rootR (s:=AE σ.env t) (p:=p) (cs:=cs) (d:=dd) (by rw[hg];rfl)
          rcases hk with ⟨_,_,e,_⟩ | ⟨pin',b,off,row,e,fr,e1,e2,hcv,hb,e3,hsz,hfp,-⟩
          ·rw[hg] at e;simp at e
          ·rw[hg] at hs
           obtain ⟨b2,off2,row2,ee,fr2,d1,d2,d3⟩:=hs.2 (by omega)
           rw[hcv] at d1
           obtain ⟨rfl,rfl⟩:b=b2∧off=off2:=by simpa using d1
           rw[hb] at d2
           obtain ⟨rfl,rfl,rfl⟩:row=row2∧e=ee∧fr=fr2:=by simpa using d2
           rw[hp,hpin] at d3
           have hn:=h.nodup t
           rw[hfp] at hn
           simp only[map_cons,nodup_cons] at hn
           exact ⟨fI,by rw[← d3,← e3];exact hR,hsub,hn.2⟩
         ·simp at hov
        ·simp_all
        ·simp at hov
       obtain ⟨f,k1,k2,k3⟩:=key
       refine ⟨f++fo,.io hc k1 h1,(t,f)::ps,by simpa using h2,by simp[h3],fun y hy => ?_⟩
       rw[mem_cons] at hy
       rcases hy with rfl | hy
       ·exact ⟨k2,k3⟩
       ·exact h4 y hy
   | iop =>
     cases outs with
     | nil=>simp[Gc] at ho
     | cons t ts =>
       simp only[map_cons,Gc] at ho
       split at ho
       ·simp at ho
       rename_i ov hov
       split at ho
       ·simp at ho
       rename_i vs hvs
       simp only[zS] at ho
       subst ho
       obtain ⟨fo,h1,ps,h2,h3,h4⟩:=E6 h hl' ha' hvs
       have hs:=h.slots t
       unfold SP at hov
       split at hov
       ·simp_all
       ·simp_all
       ·rename_i p cs dd _ hg
        split at hov
        ·rename_i hti
         subst hti
         simp only[zS] at hov
         subst hov
         rw[hg] at hs
         have hR:=hs.1
         rw[hiop rfl] at hR
         refine ⟨fp t++fo,.iop hR h1,(t,fp t)::ps,by simpa using h2,by simp[h3],fun y hy => ?_⟩
         rw[mem_cons] at hy
         rcases hy with rfl | hy
         ·exact ⟨fun _ h=>h,h.nodup _⟩
         ·exact h4 y hy
        ·simp at hov
       ·simp at hov
theorem Dy.anyFz {rs:List V} {xs:List Value} {fs:List Fp} (h:Dy w Fz Lt g rs xs fs) (hc:(rs.all fun v=>clean2s v.p)=true) (hF:∀ b,Fz' b→Fz b):Dy w Fz' Lt g rs xs fs:=by
 induction h with
 | nil=>exact .nil
 | cons h hR _ ih =>
   simp only[all_cons,zB] at hc
   exact .cons h (hR.anyFz hc.1 fun f hf hb=>(hR.lt f hf).2.2.2 (hF _ hb)) (ih hc.2)
theorem C2.anyFz {az:List Am} {xs:List Value} {os:List (Option V)} {fo:Fp} (h:C2 w Fz Lt g az xs os fo) (hc:IE os=true) (hF:∀ b,Fz' b→Fz b):C2 w Fz' Lt g az xs os fo:=by
 unfold IE at hc
 induction h with
 | nil=>exact .nil
 | val _ ih =>
   simp only[all_cons,zB] at hc
   exact .val (ih hc.2)
 | io h hR _ ih =>
   simp only[all_cons,zB] at hc
   exact .io h (hR.anyFz hc.1 fun f hf hb=>(hR.lt f hf).2.2.2 (hF _ hb)) (ih hc.2)
 | iop hR _ ih =>
   simp only[all_cons,zB] at hc
   exact .iop (hR.anyFz hc.1 fun f hf hb=>(hR.lt f hf).2.2.2 (hF _ hb)) (ih hc.2)
theorem RT {P:Program} {E:AX} (hm:P.follows .mixedOrders=true) (hE:Bw P E) {N f:Nat} (ih:∀ f,FnOk P E.laid (AM E N) f) {c:Code} {modes:List BX} {outs:List Nat} {ress:List (Nat × Option (Bool × Nat))} {keep:List (Nat × List Nat)}
  {az:List Am} {r:By} (hs:CO modes az=true) (h:MZ modes outs ress keep (AU E (AM E N) N keep c ⟨Ft 0 az,0⟩)=some r) (ht:Dk P E f (.code c modes outs ress keep))
  {xs:List Value} {mfp:Fp} (hA:Bz w Fz az xs mfp) (hn:(mfp.map Fe.b).Nodup) (hF:∀ b,Fz b→b<w.heap.size) (hLd:Laid P E.laid w Fz):Lc P f xs.toArray w (HN w Fz az xs mfp r):=by
 obtain ⟨fn,hf,hname,hb,htab⟩:=ht
 unfold Od at htab
 simp only[zB,Nat.ble_eq,all_eq_true] at htab
 obtain ⟨⟨⟨⟨t1,t2⟩,t3⟩,t4⟩,t5⟩:=htab
 have t5:∀ t∈ress.map (·.1)++outs,t<1000000:=fun t ht=>by simpa using t5 t ht
 obtain ⟨hml,hmm⟩:=GQ hs
 obtain ⟨hxl,fs,hfl,hflat,hargs⟩:=hA.list
 right
 refine ⟨?_,?_⟩
 ·have h1 : fn.name ≠ "runtime.NumGoroutine" := by simpa using hname
  simp[callFunc,hf,h1,hb]
 ·have hst:=P8 (P:=P) (E:=E) hA hn hF hLd (by omega:az.length≤fn.ntmps) t2
  unfold MZ at h
  split at h
  ·simp at h
  ·simp at h
  ·rename_i ex σ' hnex hev
   split at h
   ·simp at h
   rename_i rs hrs
   split at h
   ·simp at h
   rename_i os hos
   split at h
   ·rename_i hnd
    rw[zB] at hnd
    obtain ⟨hnd,hcl⟩:=hnd
    have hnd:=Az hnd
    simp only[zS] at h
    subst h
    have hks:(GV P E w Fz az xs mfp).fx.map (·.1)=LN 0 modes:=by
     show (JK 0 az xs).map (·.1)=_
     rw[LB 0 hxl,hmm]
    have hpost:∀ B' a' w',(GV P E w Fz az xs mfp).On keep (GV P E w Fz az xs mfp).base B'→HK ((GV P E w Fz az xs mfp).re B') fn.ntmps w' a' σ'→a'.defers=[]∧∃ v,(results fn a'.tmps).run P w' = .ok v w'∧HN w Fz az xs mfp ⟨rs,os⟩ v w' :=by
     intro B' a' w' hOn hs'
     have hFz:∀ b,Fz b→B'.Fz b:=hOn.1.fz
     obtain ⟨⟨hdf,Lt,cv,fp,hst'⟩,hsz,hfx⟩:=hs'
     refine ⟨hdf,?_⟩
     obtain ⟨vs,frs,r1,r2,ps,r3,r4,r5⟩:=Fw hst' hE t4 (fun t ht=>t5 t (mem_append.2 (.inl ht))) hrs
     rw[hmm] at hos
     obtain ⟨fo,o1,po,o2,o3,o4⟩:=E6 hst' (i:=0) hxl (fun j arg hj=>by
      obtain ⟨x,f,hx,hf',hR⟩:=hargs j arg hj
      refine ⟨x,hx,fun hio => ?_,fun hiop => ?_⟩
      ·unfold RO at hR
       rw[hio] at hR
       obtain ⟨vs,hc,-⟩:=hR
       refine ⟨vs,hc,?_⟩
       show (match az[0+j+1 - 1]?,xs[0+j+1 - 1]? with | some a,some x=>cellsOf a.v.agg x | _,_=>[])=vs
       rw[Nat.zero_add,Nat.add_sub_cancel,hj,hx]
       exact Jb hc
      ·have:=Mh (i:=0) hj hiop hx
       have h2:=hfx _ this
       simp only[Nat.zero_add] at h2 ⊢
       have hjl:j<1000000:=by
        have:=(List.getElem?_eq_some_iff.1 hj).1;omega
       rw[hst'.tmps j hjl];exact h2) hos
     have hcl2:Dy w' Fz Lt σ'.g rs vs frs∧C2 w' Fz Lt σ'.g az xs os fo:=by
      cases hkf:EY keep with
      | true =>
        have e:B'.Fz=Fz:=hOn.2 hkf
        rw[← e]
        exact ⟨r2,o1⟩
      | false =>
        rw[hkf,Bool.false_or,zB] at hcl
        exact ⟨r2.anyFz hcl.1 hFz,o1.anyFz hcl.2 hFz⟩
     obtain ⟨r2,o1⟩:=hcl2
     have hv:∃ v,(results fn a'.tmps).run P w' = .ok v w'∧NQ w' Fz Lt σ'.g rs v frs:=by
      have hres:results fn a'.tmps=(do
        let vs ← fn.results.mapM (Lg a'.tmps)
        pure (if h:vs.size=1 then vs[0] else .tuple vs):Sem Value):=rfl
      rw[hres,Array.mapM_eq_mapM_toList]
      simp only[Sem.run_bind,Sem.run_map]
      have r1' :=r1
      have hl:=r2.length.1
      have hsize:∀ {v},vs=[v]→rs.length=1:=fun e=>by rw[e] at hl;simpa using hl.symm
      rw[show ((GV P E w Fz az xs mfp).re B').P=P from rfl] at r1'
      rw[r1']
      simp only[Result.andThen_ok,Sem.run_pure]
      refine ⟨_,rfl,vs,r2,?_⟩
      match rs,hl with
      | [u],hl =>
        obtain ⟨v,rfl⟩:=length_eq_one_iff.1 hl
        simp
      | [],hl =>
        have:vs=[]:=length_eq_zero_iff.1 hl
        subst this
        simp
      | _::_::_,hl =>
        have:¬ vs.toArray.size=1:=by simp only[List.size_toArray,hl,length_cons];omega
        simp only[this,dite_false]
     obtain ⟨v,hv1,hv2⟩:=hv
     refine ⟨v,hv1,hOn.1.ext.trans hst'.ext (fun _ _ h=>h) (fun _ _ hb hm=>hOn.1.muts hb hm),Lt,σ'.g,frs,fo,hv2,o1,?_,fun x hx => ?_⟩
     ·have:frs.flatten++fo=((ps++po).map (·.2)).flatten:=by rw[map_append,List.flatten_append,r4,o3]
      rw[this]
      refine Iv hst' ?_ fun x hx => ?_
      ·rw[map_append,r3]
       exact hnd.sublist (List.Sublist.append (List.Sublist.refl _) o2)
      ·rw[mem_append] at hx
       rcases hx with hx | hx
       ·exact r5 x hx
       ·exact o4 x hx
     ·have:∃ t,x∈fp t:=by
       rw[mem_append] at hx
       rcases hx with hx | hx
       ·rw[← r4] at hx
        obtain ⟨f,hf',hxf⟩:=mem_flatten.1 hx
        obtain ⟨q,hq,rfl⟩:=mem_map.1 hf'
        exact ⟨q.1,(r5 q hq).1 x hxf⟩
       ·rw[← o3] at hx
        obtain ⟨f,hf',hxf⟩:=mem_flatten.1 hx
        obtain ⟨q,hq,rfl⟩:=mem_map.1 hf'
        exact ⟨q.1,(o4 q hq).1 x hxf⟩
      obtain ⟨t,ht⟩:=this
      exact hOn.1.ok (hst'.wok t x ht)
    refine calls_of_wp hf hb ?_
    refine NK (C:=GV P E w Fz az xs mfp) (n:=fn.ntmps) (B:=(GV P E w Fz az xs mfp).base) hm hE ih hev (by rw[hks];exact t3) hst fun B' a' w' hB hs' => ?_
    cases ex with
    | normal=>exact hpost B' a' w' hB hs'
    | ret=>exact hpost B' a' w' hB hs'
    | exit id=>exact (hnex id rfl).elim
   ·simp at h
theorem SF {P:Program} {f:Nat} {hx:List T→Option (List (Bool × List Pm × List T))} {az:List Am} {rs:List (Bool × List Pm × List T)} (hv:(az.all EP)=true) (h:hx (az.flatMap fun a=>a.v.cs)=some rs) (ht:R4 P f hx)
  {xs:List Value} {mfp:Fp} (hA:Bz w Fz az xs mfp):Lc P f xs.toArray w (HN w Fz az xs mfp ⟨rs.map fun x=>⟨x.1,x.2.1,x.2.2⟩,az.map fun _=>none⟩):=by
 have hm:mfp=[]∧∀ (w':World) (L:Nat→Nat→Prop) (g:Nat),C2 w' Fz L g az xs (az.map fun _=>none) []:=by
  clear h
  induction hA with
  | nil=>exact ⟨rfl,fun _ _ _ => .nil⟩
  | val hc hR r ih =>
    simp only[all_cons,zB] at hv
    exact ⟨(ih hv.2).1,fun w' L g => .val ((ih hv.2).2 w' L g)⟩
  | io=>simp[EP] at hv
  | iop=>simp[EP] at hv
 obtain ⟨rfl,hO⟩:=hm
 obtain ⟨v,w',h1,h2,fr,h3,h4,h5⟩:=ht _ rs h w Fz az xs hA hv rfl
 refine .inl ⟨v,w',h1,h2.mono (by simp),noLt,0,fr,[],h3,hO w' _ _,by simpa using h4,fun x hx' => .inl (h5 x (by simpa using hx'))⟩
theorem R4.ok {P:Program} {L:List String} {f:Nat} {hx:List T→Option (List (Bool × List Pm × List T))} (ht:R4 P f hx):LA P L f hx:=by
 intro az r h w Fz xs mfp hA _ _ _
 simp only[SK] at h
 split at h
 ·rename_i hv
  split at h
  ·simp at h
  ·rename_i rs hrs
   simp only[zS] at h
   subst h
   exact SF hv hrs ht hA
 ·simp at h
theorem K2 {P:Program} {E:AX} (hm:P.follows .mixedOrders=true) (hE:Bw P E) (hT:∀ f fd,E.fn f=some fd→Dk P E f fd):∀ (N:Nat) (f:Nat),FnOk P E.laid (AM E N) f:=by
 intro N
 induction N with
 | zero=>intro f az r h;simp[AM] at h
 | succ N ih =>
   intro f az r h w Fz xs mfp hA hn hF hLd
   simp only[AM] at h
   split at h
   ·simp at h
   ·rename_i hx hfd
    exact hT f _ hfd az r h w Fz xs mfp hA hn hF hLd
   ·rename_i hx hfd
    exact hT f _ hfd az r h w Fz xs mfp hA hn hF hLd
   ·rename_i c modes outs results keep hfd
    split at h
    ·rename_i hs
     exact RT hm hE ih hs h (hT f _ hfd) hA hn hF hLd
    ·simp at h
end
def HR (E:AX):Nat→List (Nat × Nat)→List Pm→Bool
 | _,[],[]=>true
 | o,(off,ty)::r,ps=>Nat.beq off o&&(match E.ty ty with
   | some d=>Nat.ble d.sz ps.length&&pbeqs (ps.take d.sz) d.own&&HR E (o+d.sz) r (ps.drop d.sz)
   | none=>false)
 | _,_,_=>false
def ON (E:AX) (d:TD):Bool:=match d.kd with
 | .int _=>pbeqs d.own [.leaf]
 | .flt _=>pbeqs d.own [.leaf]
 | .bool=>pbeqs d.own [.leaf]
 | .str=>pbeqs d.own [.leaf]
 | .slc e=>match E.ty e with
   | some de=>pbeqs d.own [.sl .own de.own]
   | none=>false
 | .st fs=>HR E 0 fs d.own
 | _=>true
def Bg (E:AX):Nat→Nat→Bool
 | 0,_=>false
 | n+1,t=>match E.ty t with
   | none=>false
   | some d=>ON E d&&(match d.kd with
     | .int _=>true
     | .flt _=>true
     | .bool=>true
     | .str=>true
     | .slc e=>Bg E n e
     | .st fs=>fs.all fun f=>Bg E n f.2
     | _=>false)
mutual
inductive WT (E:AX):Nat→List T→Prop
 | int {t d k n} (h:E.ty t=some d) (hk:d.kd = .int k) (h1:k.min≤n) (h2:n≤k.max):WT E t [.int k n]
 | flt {t d k x} (h:E.ty t=some d) (hk:d.kd = .flt k) (h1:Af k x=x) (h2:(Lit.float k x).wf=true):WT E t [.flt k x]
 | bool {t d b} (h:E.ty t=some d) (hk:d.kd = .bool):WT E t [.bool b]
 | str {t d s} (h:E.ty t=some d) (hk:d.kd = .str) (hl:s.length≤maxLen):WT E t [.str s]
 | slc {t d e n cs} (h:E.ty t=some d) (hk:d.kd = .slc e) (hl:n≤maxLen) (hs:WTs E e n cs):WT E t [.lst n cs]
 | st {t d fs cs} (h:E.ty t=some d) (hk:d.kd = .st fs) (hf:WTf E fs cs):WT E t cs
inductive WTs (E:AX):Nat→Nat→List T→Prop
 | nil {e}:WTs E e 0 []
 | snoc {e n cs c} (h:WTs E e n cs) (hc:WT E e c):WTs E e (n+1) (cs++c)
inductive WTf (E:AX):List (Nat × Nat)→List T→Prop
 | nil:WTf E [] []
 | cons {off ty r c cs} (hc:WT E ty c) (h:WTf E r cs):WTf E ((off,ty)::r) (c++cs)
end
theorem IF {α β:Type} {f:α→Option β}:∀ {l:List α} {r:List β},l.mapM f=some r→r.length=l.length∧∀ (i:Nat) (x:α),l[i]?=some x→∃ y,r[i]?=some y∧f x=some y
 | [],r,h=>by
   simp only[List.mapM_nil] at h
   have:r=[]:=(Option.some.inj h).symm
   subst this
   exact ⟨rfl,by simp⟩
 | a::l,r,h=>by
   simp only[mapM_cons,Option.bind_eq_bind] at h
   cases ha:f a with
   | none=>simp[ha] at h
   | some b =>
     cases hl:l.mapM f with
     | none=>simp[ha,hl] at h
     | some bs =>
       simp[ha,hl] at h
       subst h
       obtain ⟨h1,h2⟩:=IF hl
       refine ⟨by simp[h1],fun i x hx => ?_⟩
       cases i with
       | zero =>
         simp only[List.getElem?_cons_zero,zS] at hx
         subst hx
         exact ⟨b,rfl,ha⟩
       | succ i=>simpa using h2 i x (by simpa using hx)
theorem Jo {w:World} {base:Nat} {a:Addr} {n:Nat} {vs:List Value} (h:w.cells? base a n=some vs) (hn:0<n) :
  ∃ row e fr,w.heap[a.block]?=some (.cells row e fr)∧a.spot=none∧vs=seg row a.off n∧a.off+n≤row.size:=by
 unfold World.cells? at h
 split at h
 ·obtain ⟨hl,hv⟩:=IF h
  have hl:vs.length=n:=by simpa using hl
  have key:∀ i,i<n→∃ v,vs[i]?=some v∧w.cell? (a.add i)=some v:=fun i hi=>hv i i (by simp[hi])
  obtain ⟨v0,-,hv0⟩:=key 0 hn
  simp only[World.cell?,Addr.add,if_true] at hv0
  split at hv0
  ·rename_i row e fr hb
   split at hv0
   ·simp at hv0
   rename_i hsp
   have hsp:a.spot=none:=by cases hs:a.spot <;>simp[hs] at hsp;rfl
   have hcell:∀ i,i<n→vs[i]?=row[a.off+i]? :=by
    intro i hi
    obtain ⟨v,h1,h2⟩:=key i hi
    rw[h1]
    unfold World.cell? Addr.add at h2
    by_cases hi0:i=0
    ·subst hi0
     simp only[if_true,hb,hsp,Option.isSome_none,Bool.false_eq_true,if_false] at h2
     rw[Nat.add_zero,h2]
    ·simp only[hi0,if_false,hb,Option.isSome_none,Bool.false_eq_true] at h2
     rw[h2]
   have hsize:a.off+n≤row.size:=by
    have h1:=hcell (n - 1) (by omega)
    rw[List.getElem?_eq_getElem (by omega)] at h1
    have:=(Array.getElem?_eq_some_iff.1 h1.symm).1
    omega
   refine ⟨row,e,fr,hb,hsp,?_,hsize⟩
   apply List.ext_getElem?
   intro i
   rw[seg_getElem?]
   split
   ·rename_i hi;exact hcell i hi
   ·rename_i hi;rw[List.getElem?_eq_none (by omega)]
  ·simp at hv0
 ·simp at h
theorem Pr {row:Array Value} {off m n:Nat}:seg row off (m+n)=seg row off m++seg row (off+m) n:=by
 unfold seg
 rw[List.take_add,drop_drop]
section
variable {P:Program} {E:AX} {w:World} {H:Type} {enc:TypeId × Value→H}
theorem F3 {t:Nat} {d:TD} (h:GN P E t d):P.cellsOf t=d.sz:=by
 obtain ⟨i,z,h1,h2,-⟩:=h.info
 unfold Program.cellsOf
 simp[h1,h2]
theorem R.fields {Fz:Nat→Prop} {n:Nat} (hE:Bw P E) {read:Nat→List Value→Option (DataW H × List MemPlace)} {cs:List Value} (hread:∀ ty d vs x,E.ty ty=some d→read ty vs=some x→Bg E n ty=true→∃ ts,R w Fz noLt 0 (shares d.own) ts vs []∧WT E ty ts) :
  ∀ {fields:List Field} {fs:List (Nat × Nat)} {o:Nat} {ps:List Pm} {xs},fields.map (fun f=>(f.offset,f.type))=fs→HR E o fs ps=true→(∀ f∈fs,Bg E n f.2=true) →
   fields.mapM (fun f=>read f.type ((cs.drop f.offset).take (P.cellsOf f.type)))=some xs→∃ ts,R w Fz noLt 0 (shares ps) ts ((cs.drop o).take ps.length) []∧WTf E fs ts:=by
 intro fields
 induction fields with
 | nil =>
   intro fs o ps xs hfs hb _ _
   simp only[map_nil] at hfs
   subst hfs
   cases ps with
   | nil=>exact ⟨[],by simpa [shares] using R.nil,.nil⟩
   | cons=>simp[HR] at hb
 | cons f fields ih =>
   intro fs o ps xs hfs hb hp hm
   simp only[map_cons] at hfs
   subst hfs
   simp only[HR,zB,Nat.beq_eq] at hb
   obtain ⟨h1,hb⟩:=hb
   split at hb
   ·rename_i d hd
    simp only[zB,Nat.ble_eq] at hb
    obtain ⟨⟨hb1,hb2⟩,hb3⟩:=hb
    have hb2:=pbeqs_eq hb2
    simp only[mapM_cons,Option.bind_eq_bind] at hm
    cases hr:read f.type ((cs.drop f.offset).take (P.cellsOf f.type)) with
    | none=>simp[hr] at hm
    | some x =>
      cases hl:fields.mapM (fun f=>read f.type ((cs.drop f.offset).take (P.cellsOf f.type))) with
      | none=>simp[hr,hl] at hm
      | some ys =>
        obtain ⟨ts1,r1,w1⟩:=hread _ d _ x hd hr (hp (f.offset,f.type) (by simp))
        obtain ⟨ts2,r2,w2⟩:=ih rfl hb3 (fun f hf=>hp f (mem_cons_of_mem _ hf)) hl
        refine ⟨ts1++ts2,?_,.cons w1 w2⟩
        have hsz:=F3 (hE _ _ hd)
        rw[hsz,h1] at r1
        have es:shares ps=shares d.own++shares (ps.drop d.sz):=by rw[← GT,← hb2,take_append_drop]
        have e2:(cs.drop o).take ps.length=(cs.drop o).take d.sz++(cs.drop (o+d.sz)).take (ps.drop d.sz).length:=by
         have:ps.length=d.sz+(ps.drop d.sz).length:=by rw[List.length_drop];omega
         rw[this,List.take_add,drop_drop]
        rw[es,e2]
        exact r1.append r2
   ·simp at hb
theorem Rw {Fz:Nat→Prop} (hE:Bw P E) (hFz:∀ b,b<w.heap.size→Fz b) {spare:Nat→Bool}:∀ {fuel n t:Nat} {cs:List Value} {d:TD} {x},E.ty t=some d→Bg E n t=true→DataW.trod enc P w 0 spare true fuel t cs=some x →
  ∃ ts,R w Fz noLt 0 (shares d.own) ts cs []∧WT E t ts:=by
 intro fuel
 induction fuel with
 | zero=>intro n t cs d x _ _ h;simp[DataW.trod] at h
 | succ fuel ih =>
   intro n t cs d x hd hp h
   cases n with
   | zero=>simp[Bg] at hp
   | succ n =>
     simp only[Bg,hd,zB] at hp
     obtain ⟨ho,hk⟩:=hp
     obtain ⟨u,hu,hkd,-⟩:=(hE t d hd).und
     simp only[DataW.trod,hu] at h
     unfold FS at hkd
     cases hkk:d.kd with
     | int k =>
       simp only[hkk] at hkd
       subst hkd
       simp only[ON,hkk] at ho
       rw[pbeqs_eq ho]
       split at h <;>try (simp_all;done)
       rename_i k1 k' m hcs
       simp only[zS,TypeDesc.int.injEq] at hcs
       subst hcs
       split at h
       ·rename_i hc
        obtain ⟨rfl,hw⟩:=hc
        simp only[Lit.wf,zB,decide_eq_true_eq] at hw
        exact ⟨[.int k' m],.leaf rfl .nil,.int hd hkk hw.1 hw.2⟩
       ·simp at h
     | flt k =>
       simp only[hkk] at hkd
       subst hkd
       simp only[ON,hkk] at ho
       rw[pbeqs_eq ho]
       split at h <;>try (simp_all;done)
       rename_i k1 k' m hcs
       simp only[zS,TypeDesc.float.injEq] at hcs
       subst hcs
       split at h
       ·rename_i hc
        obtain ⟨rfl,hw⟩:=hc
        refine ⟨[.flt k' (Af k' m)],.leaf ⟨m,rfl,rfl⟩ .nil,.flt hd hkk (N3 _ _) ?_⟩
        unfold Af
        split
        ·cases k' <;>rfl
        ·exact hw
       ·simp at h
     | bool =>
       simp only[hkk] at hkd
       subst hkd
       simp only[ON,hkk] at ho
       rw[pbeqs_eq ho]
       split at h <;>try (simp_all;done)
       rename_i b _
       exact ⟨[.bool b],.leaf rfl .nil,.bool hd hkk⟩
     | str =>
       simp only[hkk] at hkd
       subst hkd
       simp only[ON,hkk] at ho
       rw[pbeqs_eq ho]
       split at h <;>try (simp_all;done)
       rename_i s _
       split at h
       ·rename_i hl
        exact ⟨[.str s.data.toList],.leaf rfl .nil,.str hd hkk (by simpa using hl)⟩
       ·simp at h
     | slc e =>
       simp only[hkk] at hkd hk
       obtain ⟨rfl,-⟩:=hkd
       simp only[ON,hkk] at ho
       split at ho
       ·rename_i de hde
        rw[pbeqs_eq ho]
        have hsz:=F3 (hE e de hde)
        have hpos:=(hE e de hde).pos
        have hlen:=(hE e de hde).len
        split at h <;>try (simp_all;done)
        ·exact ⟨[.lst 0 []],.slE (by simp) .nil,.slc hd hkk (Nat.zero_le _) .nil⟩
        ·rename_i e1 a len cap hcs
         simp only[zS,TypeDesc.slice.injEq] at hcs
         subst hcs
         split at h
         ·rename_i hc
          obtain ⟨-,hlc,hcm⟩:=hc
          simp only[Option.bind_eq_some_iff] at h
          obtain ⟨elems,he,-⟩:=h
          obtain ⟨-,hel⟩:=IF he
          have hat:∀ i,i<len→∃ vs y,w.cells? 0 (a.add (i * de.sz)) de.sz=some vs∧DataW.trod enc P w 0 spare true fuel e vs=some y:=by
           intro i hi
           obtain ⟨y,-,hy⟩:=hel i i (by simp[hi])
           simp only[hsz,Option.bind_eq_some_iff] at hy
           obtain ⟨vs,h1,h2⟩:=hy
           exact ⟨vs,y,h1,h2⟩
          rcases Nat.eq_zero_or_pos len with rfl | hl
          ·exact ⟨[.lst 0 []],.slE (by simp) .nil,.slc hd hkk (Nat.zero_le _) .nil⟩
          ·obtain ⟨vs0,-,hc0,-⟩:=hat 0 hl
           obtain ⟨row,ety,fr,hb,hsp,-,-⟩:=Jo hc0 hpos
           simp only[Nat.zero_mul,Addr.add,if_true] at hb hsp
           have hcell:∀ i,i<len→∃ y,DataW.trod enc P w 0 spare true fuel e (seg row (a.off+i * de.sz) de.sz)=some y∧a.off+i * de.sz+de.sz≤row.size:=by
            intro i hi
            obtain ⟨vs,y,h1,h2⟩:=hat i hi
            obtain ⟨row',ety',fr',k1,-,k3,k4⟩:=Jo h1 hpos
            have hblk:(a.add (i * de.sz)).block=a.block:=by unfold Addr.add;split <;>rfl
            have hoff:(a.add (i * de.sz)).off=a.off+i * de.sz:=by unfold Addr.add;split <;>simp_all
            rw[hblk,hb] at k1
            obtain ⟨rfl,-,-⟩:row=row'∧ety=ety'∧fr=fr' :=by simpa using k1
            rw[hoff] at k3 k4
            exact ⟨y,k3 ▸ h2,k4⟩
           have hall:∀ m,m≤len→∃ ts,R w Fz noLt 0 (rep m (shares de.own)) ts (seg row a.off (m * de.sz)) []∧WTs E e m ts:=by
            intro m
            induction m with
            | zero=>intro _;exact ⟨[],by simpa [rep,seg] using R.nil,.nil⟩
            | succ m ihm =>
              intro hm
              obtain ⟨ts,r1,w1⟩:=ihm (by omega)
              obtain ⟨y,hy,-⟩:=hcell m (by omega)
              obtain ⟨c,r2,w2⟩:=ih hde hk hy
              refine ⟨ts++c,?_,.snoc w1 w2⟩
              rw[Eu,BI,Nat.add_mul,Nat.one_mul,Pr]
              exact r1.append r2
           obtain ⟨ts,r1,w1⟩:=hall len (Nat.le_refl _)
           obtain ⟨y,-,hsize⟩:=hcell (len - 1) (by omega)
           have hsz2:a.off+len * de.sz≤row.size:=by
            have:(len - 1) * de.sz+de.sz=len * de.sz:=by
             obtain ⟨m,rfl⟩:∃ m,len=m+1:=⟨len - 1,by omega⟩
             rw[Nat.add_sub_cancel,Nat.add_mul,Nat.one_mul]
            omega
           refine ⟨[.lst len ts],?_,.slc hd hkk (Nat.le_trans hlc hcm) w1⟩
           have hb':a.block<w.heap.size:=by
            rcases Nat.lt_or_ge a.block w.heap.size with h' | h'
            ·exact h'
            ·simp[h'] at hb
           have hsh:(shares de.own).length=de.sz:=by rw[AK,hlen]
           have:=R.slS (Fz:=Fz) (Lt:=noLt) (g:=0) (ps:=[]) (ts:=[]) (vs:=[]) (fp:=[]) (b:=a.block) (off:=a.off) (n:=len) (cap:=cap) (el:=shares de.own) (by rw[hsh];exact hpos) hb (hFz _ hb') hlc rfl (by rw[hsh];exact hsz2)
            (by rw[hsh];exact r1) .nil
           obtain ⟨ab,ao,asp⟩:=a
           simp only at hsp
           subst hsp
           exact this
         ·simp at h
       ·simp at ho
     | st fs =>
       simp only[hkk] at hkd hk
       obtain ⟨fields,rfl,hfs⟩:=hkd
       simp only[ON,hkk] at ho
       split at h <;>try (simp_all;done)
       rename_i fs1 hcs
       simp only[zS,TypeDesc.struct.injEq] at hcs
       subst hcs
       split at h
       ·rename_i hlen
        simp only[Option.map_eq_some_iff] at h
        obtain ⟨xs,hxs,-⟩:=h
        obtain ⟨ts,r1,w1⟩:=R.fields (n:=n) (Fz:=Fz) hE (read:=fun ty vs=>DataW.trod enc P w 0 spare true fuel ty vs) (fun ty d vs x h1 h2 h3=>ih h1 h3 h2) hfs ho (by simpa using hk) hxs
        refine ⟨ts,?_,.st hd hkk w1⟩
        rw[drop_zero,(hE t d hd).len,← F3 (hE t d hd),← hlen,take_length] at r1
        exact r1
       ·simp at h
     | ptr e=>simp[hkk] at hk
     | other=>simp[hkk] at hk
end
def br {α:Type} (b:Bool) (x y:Option α):Option α:=match b with
 | true=>x
 | false=>y
def gd {α:Type} (b:Bool) (x:Option α):Option α:=match b with
 | true=>x
 | false=>none
def bd {α β:Type} (o:Option α) (k:α→Option β):Option β:=match o with
 | none=>none
 | some a=>k a
theorem Ax {α:Type} {b:Bool} {x:Option α} {r:α} (h:gd b x=some r):b=true∧x=some r:=by
 cases b
 ·simp[gd] at h
 ·exact ⟨rfl,h⟩
theorem Bv {α β:Type} {o:Option α} {k:α→Option β} {r:β} (h:bd o k=some r):∃ a,o=some a∧k a=some r:=by
 cases o with
 | none=>simp[bd] at h
 | some a=>exact ⟨a,rfl,h⟩
theorem L2 {α:Type} {b:Bool} {x y:Option α} {r:α} (h:br b x y=some r):(b=true∧x=some r)∨(b=false∧y=some r):=by
 cases b
 ·exact .inr ⟨rfl,h⟩
 ·exact .inl ⟨rfl,h⟩
inductive CK where
 | int (k:IntKind)
 | flt (k:FloatKind)
 | bool
 | str
 | lst
 | bad
def S8:T→CK
 | .int k _ => .int k
 | .flt k _ => .flt k
 | .bool _ => .bool
 | .str _ => .str
 | .lst _ _ => .lst
 | _ => .bad
def Tt (cs:List T) (j:Nat):Int:=match cs[j]? with
 | some (.int _ n)=>n
 | _=>0
def Ty (cs:List T) (j:Nat):Nat:=match cs[j]? with
 | some (.flt _ x)=>x
 | _=>0
def Tu (cs:List T) (j:Nat):Bool:=match cs[j]? with
 | some (.bool b)=>b
 | _=>false
def L4 (cs:List T) (j:Nat):List UInt8:=match cs[j]? with
 | some (.str s)=>s
 | _=>[]
def Sm (cs:List T) (j:Nat):Nat:=match cs[j]? with
 | some (.lst n _)=>n
 | _=>0
def Sa (cs:List T) (j:Nat):List T:=match cs[j]? with
 | some (.lst _ l)=>l
 | _=>[]
def Qn (k:CK) (t:T):Bool:=match k,t with
 | .int k,.int k' _=>k==k'
 | .flt k,.flt k' _=>k==k'
 | .bool,.bool _=>true
 | .str,.str _=>true
 | .lst,.lst _ _=>true
 | _,_=>false
def Ey:List CK→List T→Nat→Bool
 | [],_,_=>true
 | k::ks,cs,j=>(match cs[j]? with
   | some t=>Qn k t
   | none=>false)&&Ey ks cs (j+1)
def Np (k:CK) (cs:List T) (j:Nat):T:=match k with
 | .int k => .int k (Tt cs j)
 | .flt k => .flt k (Ty cs j)
 | .bool => .bool (Tu cs j)
 | .str => .str (L4 cs j)
 | .lst => .lst (Sm cs j) (Sa cs j)
 | .bad => .nil
def HM:List CK→List T→Nat→List T
 | [],_,_=>[]
 | k::ks,cs,j=>Np k cs j::HM ks cs (j+1)
theorem PM {k:CK} {cs:List T} {j:Nat} {t:T} (h:cs[j]?=some t) (hk:Qn k t=true):Np k cs j=t:=by
 cases k <;>cases t <;>simp[Qn] at hk <;>simp[Np,Tt,Ty,Tu,L4,Sm,Sa,h,hk]
theorem HC:∀ {ks:List CK} {cs:List T} {j:Nat},Ey ks cs j=true→CG cs j ks.length=some (HM ks cs j)
 | [],_,_,_=>rfl
 | k::ks,cs,j,h=>by
   simp only[Ey,zB] at h
   obtain ⟨h1,h2⟩:=h
   split at h1
   ·rename_i t ht
    simp only[length_cons,CG,ht,HC h2,HM,PM ht h1]
   ·simp at h1
inductive Ar where
 | int (n:Int)
 | flt (x:Nat)
 | bool (b:Bool)
 | str (s:List UInt8)
 | lst (n:Nat) (cs:List T)
 | nat (n:Nat)
mutual
def QT:T→T→List Ar→Option (List Ar)
 | .int k _,.int k' n,r=>if k=k' then some (.int n::r) else none
 | .bool _,.bool b,r=>some (.bool b::r)
 | .flt k _,.flt k' x,r=>if k=k' then some (.flt x::r) else none
 | .str _,.str s,r=>some (.str s::r)
 | .nil,.nil,r=>some r
 | .opq,.opq,r=>some r
 | .lst _ _,.lst n cs,r=>some (.lst n cs::r)
 | .ref ps,.ref cs,r=>mtTs ps cs r
 | .fn f ps,.fn f' cs,r=>if f=f' then mtTs ps cs r else none
 | _,_,_=>none
def mtTs:List T→List T→List Ar→Option (List Ar)
 | [],[],r=>some r
 | p::ps,t::ts,r=>match mtTs ps ts r with
   | none=>none
   | some r=>QT p t r
 | _,_,_=>none
end
mutual
def TI:T→List Ar→Option (T × List Ar)
 | .int k _,.int n::r=>some (.int k n,r)
 | .bool _,.bool b::r=>some (.bool b,r)
 | .flt k _,.flt x::r=>some (.flt k x,r)
 | .str _,.str s::r=>some (.str s,r)
 | .nil,r=>some (.nil,r)
 | .opq,r=>some (.opq,r)
 | .lst _ _,.lst n cs::r=>some (.lst n cs,r)
 | .ref ps,r=>match flTs ps r with
   | none=>none
   | some (cs,r)=>some (.ref cs,r)
 | .fn f ps,r=>match flTs ps r with
   | none=>none
   | some (cs,r)=>some (.fn f cs,r)
 | _,_=>none
def flTs:List T→List Ar→Option (List T × List Ar)
 | [],r=>some ([],r)
 | p::ps,r=>match TI p r with
   | none=>none
   | some (t,r)=>match flTs ps r with
     | none=>none
     | some (ts,r)=>some (t::ts,r)
end
mutual
theorem R7:∀ {p t:T} {r ls:List Ar},QT p t r=some ls→TI p ls=some (t,r)
 | .int k _,t,r,ls,h=>by cases t <;>simp[QT] at h;obtain ⟨rfl,rfl⟩:=h;rfl
 | .bool _,t,r,ls,h=>by cases t <;>simp[QT] at h;subst h;rfl
 | .flt k _,t,r,ls,h=>by cases t <;>simp[QT] at h;obtain ⟨rfl,rfl⟩:=h;rfl
 | .str _,t,r,ls,h=>by cases t <;>simp[QT] at h;subst h;rfl
 | .nil,t,r,ls,h=>by cases t <;>simp[QT] at h;subst h;rfl
 | .opq,t,r,ls,h=>by cases t <;>simp[QT] at h;subst h;rfl
 | .lst _ _,t,r,ls,h=>by cases t <;>simp[QT] at h;subst h;rfl
 | .ref ps,t,r,ls,h=>by
   cases t <;>simp only[QT] at h <;>try (simp at h;done)
   simp only[TI,mtTs_fl h]
 | .fn f ps,t,r,ls,h=>by
   cases t <;>simp only[QT] at h <;>try (simp at h;done)
   split at h
   ·rename_i e;subst e
    simp only[TI,mtTs_fl h]
   ·simp at h
theorem mtTs_fl:∀ {ps ts:List T} {r ls:List Ar},mtTs ps ts r=some ls→flTs ps ls=some (ts,r)
 | [],ts,r,ls,h=>by cases ts <;>simp[mtTs] at h;subst h;rfl
 | p::ps,ts,r,ls,h=>by
   cases ts with
   | nil=>simp[mtTs] at h
   | cons t ts =>
     simp only[mtTs] at h
     split at h
     ·simp at h
     ·rename_i r' h'
      simp only[flTs,R7 h,mtTs_fl h']
end
def H5:List (Nat × Nat)→List (Nat × Nat)→Bool
 | [],[]=>true
 | a::az,b::bs=>Nat.beq a.1 b.1&&Nat.beq a.2 b.2&&H5 az bs
 | _,_=>false
theorem Kv:∀ {a b:List (Nat × Nat)},H5 a b=true→a=b
 | [],[],_=>rfl
 | [],_::_,h=>by simp[H5] at h
 | _::_,[],h=>by simp[H5] at h
 | a::az,b::bs,h=>by
   simp only[H5,zB,Nat.beq_eq] at h
   obtain ⟨⟨h1,h2⟩,h3⟩:=h
   rw[Kv h3,show a=b from Prod.ext h1 h2]
def Lw:CE→CE→Bool
 | [],[]=>true
 | _,_=>false
def QN (p q:AO) (r:List Ar):Option (List Ar) :=
 match p.path,q.path with
 | [],[]=>if Nat.beq p.e q.e&&Nat.beq p.c q.c&&Nat.beq p.n q.n&&p.agg==q.agg then some r else none
 | [x],[y]=>if Nat.beq x.1 y.1&&Nat.beq x.2 y.2&&Nat.beq p.c q.c&&Nat.beq p.n q.n&&p.agg==q.agg then some (.nat q.e::r) else none
 | _,_=>none
def RX (p:AO) (r:List Ar):Option (AO × List Ar) :=
 match p.path,r with
 | [],r=>some (p,r)
 | [x],.nat e::r=>some (⟨[x],e,p.c,p.n,p.agg⟩,r)
 | _,_=>none
theorem Ln {p q:AO} {r ls:List Ar} (h:QN p q r=some ls):RX p ls=some (q,r):=by
 obtain ⟨pp,pe,pc,pn,pa⟩:=p
 obtain ⟨qp,qe,qc,qn,qa⟩:=q
 unfold QN at h
 simp only at h
 split at h
 ·split at h
  ·rename_i hc
   simp only[zB,Nat.beq_eq,beq_iff_eq] at hc
   obtain ⟨⟨⟨rfl,rfl⟩,rfl⟩,rfl⟩:=hc
   simp only[zS] at h
   subst h;rfl
  ·simp at h
 ·rename_i x y
  split at h
  ·rename_i hc
   simp only[zB,Nat.beq_eq,beq_iff_eq] at hc
   obtain ⟨⟨⟨⟨h1,h2⟩,rfl⟩,rfl⟩,rfl⟩:=hc
   obtain rfl:x=y:=Prod.ext h1 h2
   simp only[zS] at h
   subst h;rfl
  ·simp at h
 ·simp at h
def Gl:List (Nat × AO)→List (Nat × AO)→List Ar→Option (List Ar)
 | [],[],r=>some r
 | p::ps,q::qs,r=>match Gl ps qs r with
   | none=>none
   | some r=>if Nat.beq p.1 q.1 then QN p.2 q.2 r else none
 | _,_,_=>none
def Lf:List (Nat × AO)→List Ar→Option (List (Nat × AO) × List Ar)
 | [],r=>some ([],r)
 | p::ps,r=>match RX p.2 r with
   | none=>none
   | some (q,r)=>match Lf ps r with
     | none=>none
     | some (qs,r)=>some ((p.1,q)::qs,r)
theorem Kx:∀ {ps qs:List (Nat × AO)} {r ls:List Ar},Gl ps qs r=some ls→Lf ps ls=some (qs,r)
 | [],[],r,ls,h=>by simp[Gl] at h;subst h;rfl
 | [],_::_,_,_,h=>by simp[Gl] at h
 | _::_,[],_,_,h=>by simp[Gl] at h
 | p::ps,q::qs,r,ls,h=>by
   simp only[Gl] at h
   split at h
   ·simp at h
   ·rename_i r' h'
    split at h
    ·rename_i e
     have e:p.1=q.1:=by simpa using e
     simp only[Lf,Ln h,Kx h',e]
    ·simp at h
def Tq:AA→AA→List Ar→Option (List Ar)
 | .dead,.dead,r=>some r
 | .und,.und,r=>some r
 | .gone,.gone,r=>some r
 | .val a p cs d pin,.val a' p' cs' d' pin',r=>if a==a'&&pbeqs p p'&&Lw d d'&&Nat.beq pin pin' then mtTs cs cs' r else none
 | .box p cs d pin,.box p' cs' d' pin',r=>if pbeqs p p'&&Lw d d'&&Nat.beq pin pin' then mtTs cs cs' r else none
 | .view k pl,.view k' pl',r=>if Nat.beq k k' then QN pl pl' r else none
 | .ptr k pl,.ptr k' pl',r=>if Nat.beq k k' then QN pl pl' r else none
 | .clo f caps,.clo f' caps',r=>if Nat.beq f f' then Gl caps caps' r else none
 | _,_,_=>none
def R2:AA→List Ar→Option (AA × List Ar)
 | .dead,r=>some (.dead,r)
 | .und,r=>some (.und,r)
 | .gone,r=>some (.gone,r)
 | .val a p cs _ pin,r=>match flTs cs r with
   | none=>none
   | some (cs,r)=>some (.val a p cs [] pin,r)
 | .box p cs _ pin,r=>match flTs cs r with
   | none=>none
   | some (cs,r)=>some (.box p cs [] pin,r)
 | .view k pl,r=>match RX pl r with
   | none=>none
   | some (pl,r)=>some (.view k pl,r)
 | .ptr k pl,r=>match RX pl r with
   | none=>none
   | some (pl,r)=>some (.ptr k pl,r)
 | .clo f caps,r=>match Lf caps r with
   | none=>none
   | some (caps,r)=>some (.clo f caps,r)
 | _,_=>none
theorem Ry {p s:AA} {r ls:List Ar} (h:Tq p s r=some ls):R2 p ls=some (s,r):=by
 unfold Tq at h
 split at h
 ·simp only[zS] at h;subst h;rfl
 ·simp only[zS] at h;subst h;rfl
 ·simp only[zS] at h;subst h;rfl
 ·rename_i a p cs d pin a' p' cs' d' pin'
  split at h
  ·rename_i hc
   simp only[zB,Nat.beq_eq,beq_iff_eq] at hc
   obtain ⟨⟨⟨rfl,h2⟩,h3⟩,rfl⟩:=hc
   obtain rfl:=pbeqs_eq h2
   have:d=[]∧d'=[]:=by cases d <;>cases d' <;>simp[Lw] at h3;exact ⟨rfl,rfl⟩
   obtain ⟨rfl,rfl⟩:=this
   simp only[R2,mtTs_fl h]
  ·simp at h
 ·rename_i p cs d pin p' cs' d' pin'
  split at h
  ·rename_i hc
   simp only[zB,Nat.beq_eq] at hc
   obtain ⟨⟨h2,h3⟩,rfl⟩:=hc
   obtain rfl:=pbeqs_eq h2
   have:d=[]∧d'=[]:=by cases d <;>cases d' <;>simp[Lw] at h3;exact ⟨rfl,rfl⟩
   obtain ⟨rfl,rfl⟩:=this
   simp only[R2,mtTs_fl h]
  ·simp at h
 ·split at h
  ·rename_i hc
   simp only[Nat.beq_eq] at hc
   subst hc
   simp only[R2,Ln h]
  ·simp at h
 ·split at h
  ·rename_i hc
   simp only[Nat.beq_eq] at hc
   subst hc
   simp only[R2,Ln h]
  ·simp at h
 ·split at h
  ·rename_i hc
   simp only[Nat.beq_eq] at hc
   subst hc
   simp only[R2,Kx h]
  ·simp at h
 ·simp at h
def JU:List (Nat × AA)→List (Nat × AA)→List Ar→Option (List Ar)
 | [],[],r=>some r
 | p::ps,q::qs,r=>match JU ps qs r with
   | none=>none
   | some r=>if Nat.beq p.1 q.1 then Tq p.2 q.2 r else none
 | _,_,_=>none
def Om:List (Nat × AA)→List Ar→Option (List (Nat × AA) × List Ar)
 | [],r=>some ([],r)
 | p::ps,r=>match R2 p.2 r with
   | none=>none
   | some (q,r)=>match Om ps r with
     | none=>none
     | some (qs,r)=>some ((p.1,q)::qs,r)
theorem Mp:∀ {ps qs:List (Nat × AA)} {r ls:List Ar},JU ps qs r=some ls→Om ps ls=some (qs,r)
 | [],[],r,ls,h=>by simp[JU] at h;subst h;rfl
 | [],_::_,_,_,h=>by simp[JU] at h
 | _::_,[],_,_,h=>by simp[JU] at h
 | p::ps,q::qs,r,ls,h=>by
   simp only[JU] at h
   split at h
   ·simp at h
   ·rename_i r' h'
    split at h
    ·rename_i e
     have e:p.1=q.1:=by simpa using e
     simp only[Om,Ry h,Mp h',e]
    ·simp at h
def Kf (p σ:AS):Option (List Ar):=if Nat.beq p.g σ.g then JU p.env σ.env [] else none
def PS (p:AS) (ls:List Ar):AS:=match Om p.env ls with
 | some (env,_)=>⟨env,p.g⟩
 | none=>p
theorem Le {p σ:AS} {ls:List Ar} (h:Kf p σ=some ls):PS p ls=σ:=by
 unfold Kf at h
 split at h
 ·rename_i e
  have e:p.g=σ.g:=by simpa using e
  unfold PS
  rw[Mp h,e]
 ·simp at h
def Sr (p v:V) (r:List Ar):Option (List Ar):=if p.agg==v.agg&&pbeqs p.p v.p then mtTs p.cs v.cs r else none
def Ss (p:V) (r:List Ar):Option (V × List Ar):=match flTs p.cs r with
 | none=>none
 | some (cs,r)=>some (⟨p.agg,p.p,cs⟩,r)
theorem Nu {p v:V} {r ls:List Ar} (h:Sr p v r=some ls):Ss p ls=some (v,r):=by
 unfold Sr at h
 split at h
 ·rename_i hc
  simp only[zB,beq_iff_eq] at hc
  obtain ⟨h1,h2⟩:=hc
  unfold Ss
  rw[mtTs_fl h]
  obtain ⟨a,b,c⟩:=p
  obtain ⟨a',b',c'⟩:=v
  simp only at h1 h2
  subst h1
  obtain rfl:=pbeqs_eq h2
  rfl
 ·simp at h
def Eo:List Am→List Am→List Ar→Option (List Ar)
 | [],[],r=>some r
 | p::ps,q::qs,r=>match Eo ps qs r with
   | none=>none
   | some r=>if p.m.beq q.m then Sr p.v q.v r else none
 | _,_,_=>none
def Lq:List Am→List Ar→Option (List Am × List Ar)
 | [],r=>some ([],r)
 | p::ps,r=>match Ss p.v r with
   | none=>none
   | some (v,r)=>match Lq ps r with
     | none=>none
     | some (qs,r)=>some (⟨p.m,v⟩::qs,r)
theorem BX.beq_eq {a b:BX} (h:a.beq b=true):a=b:=by cases a <;>cases b <;>simp[BX.beq] at h <;>rfl
theorem Kz:∀ {ps qs:List Am} {r ls:List Ar},Eo ps qs r=some ls→Lq ps ls=some (qs,r)
 | [],[],r,ls,h=>by simp[Eo] at h;subst h;rfl
 | [],_::_,_,_,h=>by simp[Eo] at h
 | _::_,[],_,_,h=>by simp[Eo] at h
 | p::ps,q::qs,r,ls,h=>by
   simp only[Eo] at h
   split at h
   ·simp at h
   ·rename_i r' h'
    split at h
    ·rename_i e
     have e:=BX.beq_eq e
     simp only[Lq,Nu h,Kz h',e]
    ·simp at h
def Cr (p:List Am) (ls:List Ar):List Am:=match Lq p ls with
 | some (az,_)=>az
 | none=>p
theorem Q2 {p az:List Am} {ls:List Ar} (h:Eo p az []=some ls):Cr p ls=az:=by
 unfold Cr;rw[Kz h]
def N5:List V→List V→List Ar→Option (List Ar)
 | [],[],r=>some r
 | p::ps,q::qs,r=>match N5 ps qs r with
   | none=>none
   | some r=>Sr p q r
 | _,_,_=>none
def RH:List V→List Ar→Option (List V × List Ar)
 | [],r=>some ([],r)
 | p::ps,r=>match Ss p r with
   | none=>none
   | some (v,r)=>match RH ps r with
     | none=>none
     | some (vs,r)=>some (v::vs,r)
theorem Oa:∀ {ps qs:List V} {r ls:List Ar},N5 ps qs r=some ls→RH ps ls=some (qs,r)
 | [],[],r,ls,h=>by simp[N5] at h;subst h;rfl
 | [],_::_,_,_,h=>by simp[N5] at h
 | _::_,[],_,_,h=>by simp[N5] at h
 | p::ps,q::qs,r,ls,h=>by
   simp only[N5] at h
   split at h
   ·simp at h
   ·rename_i r' h'
    simp only[RH,Nu h,Oa h']
def I0:List (Option V)→List (Option V)→List Ar→Option (List Ar)
 | [],[],r=>some r
 | none::ps,none::qs,r=>I0 ps qs r
 | some p::ps,some q::qs,r=>match I0 ps qs r with
   | none=>none
   | some r=>Sr p q r
 | _,_,_=>none
def PU:List (Option V)→List Ar→Option (List (Option V) × List Ar)
 | [],r=>some ([],r)
 | none::ps,r=>match PU ps r with
   | none=>none
   | some (vs,r)=>some (none::vs,r)
 | some p::ps,r=>match Ss p r with
   | none=>none
   | some (v,r)=>match PU ps r with
     | none=>none
     | some (vs,r)=>some (some v::vs,r)
theorem MG:∀ {ps qs:List (Option V)} {r ls:List Ar},I0 ps qs r=some ls→PU ps ls=some (qs,r)
 | [],[],r,ls,h=>by simp[I0] at h;subst h;rfl
 | [],_::_,_,_,h=>by simp[I0] at h
 | none::_,[],_,_,h=>by simp[I0] at h
 | some _::_,[],_,_,h=>by simp[I0] at h
 | none::_,some _::_,_,_,h=>by simp[I0] at h
 | some _::_,none::_,_,_,h=>by simp[I0] at h
 | none::ps,none::qs,r,ls,h=>by
   simp only[I0] at h
   simp only[PU,MG h]
 | some p::ps,some q::qs,r,ls,h=>by
   simp only[I0] at h
   split at h
   ·simp at h
   ·rename_i r' h'
    simp only[PU,Nu h,MG h']
def Tm (p v:By):Option (List Ar):=match I0 p.outs v.outs [] with
 | none=>none
 | some r=>N5 p.rs v.rs r
def TC (p:By) (ls:List Ar):By:=match RH p.rs ls with
 | none=>p
 | some (rs,r)=>match PU p.outs r with
   | none=>p
   | some (os,_)=>⟨rs,os⟩
theorem R6 {p v:By} {ls:List Ar} (h:Tm p v=some ls):TC p ls=v:=by
 unfold Tm at h
 split at h
 ·simp at h
 ·rename_i r hr
  unfold TC
  rw[Oa h]
  simp only[MG hr]
end Go.Desk
end
section
namespace Go.Desk
open Go Go.ChangeShapes Go.RowKit
inductive Ch (E:AX):List Nat→List Am→Prop
 | nil:Ch E [] []
 | cons {t tys d ts az} (hd:E.ty t=some d) (hw:WT E t ts) (r:Ch E tys az):Ch E (t::tys) (⟨.val,⟨d.agg,shares d.own,ts⟩⟩::az)
section
variable {P:Program} {E:AX} {w:World} {H:Type} {enc:TypeId × Value→H}
theorem Li {t:Nat} {d:TD} (hT:GN P E t d) {n:Nat} (hp:Bg E n t=true) (hd:E.ty t=some d) {r:Reach} {base:Nat} {v:Value} (h:Value.okWide P w r base t v):AD d.agg v v.cells.toList:=by
 cases n with
 | zero=>simp[Bg] at hp
 | succ n =>
   simp only[Bg,hd,zB] at hp
   obtain ⟨-,hk⟩:=hp
   obtain ⟨u,hu,hkd,hag⟩:=hT.und
   unfold FS at hkd
   cases hkk:d.kd with
   | int k =>
     simp only[hkk] at hkd
     subst hkd
     simp only[Value.okWide,hu,Cell.okWide] at h
     rw[← hag]
     cases v <;>simp_all [Cell.ok,DM,AD,Value.cells]
   | flt k =>
     simp only[hkk] at hkd
     subst hkd
     simp only[Value.okWide,hu,Cell.okWide] at h
     rw[← hag]
     cases v <;>simp_all [Cell.ok,DM,AD,Value.cells]
   | bool =>
     simp only[hkk] at hkd
     subst hkd
     simp only[Value.okWide,hu,Cell.okWide] at h
     rw[← hag]
     cases v <;>simp_all [Cell.ok,DM,AD,Value.cells]
   | str =>
     simp only[hkk] at hkd
     subst hkd
     simp only[Value.okWide,hu,Cell.okWide] at h
     rw[← hag]
     cases v <;>simp_all [Cell.ok,DM,AD,Value.cells]
   | slc e =>
     simp only[hkk] at hkd
     obtain ⟨rfl,-⟩:=hkd
     simp only[Value.okWide,hu,Cell.okWide] at h
     rw[← hag]
     cases v <;>simp_all [Cell.ok,DM,AD,Value.cells]
   | st fs =>
     simp only[hkk] at hkd
     obtain ⟨fields,rfl,-⟩:=hkd
     simp only[Value.okWide,hu] at h
     obtain ⟨cs,rfl,-⟩:=h
     rw[← hag]
     simp[DM,AD,Value.cells]
   | ptr e=>simp[hkk] at hk
   | other=>simp[hkk] at hk
theorem Nh (hE:Bw P E) {N:Nat} {r:Reach} {base:Nat}:∀ {tys:List Nat} {args:List Value} {ds:List (DataW H)} {p:List MemPlace},DataW.TrodAll enc P w 0 (fun _=>true) true tys args ds p→(tys.all fun t=>Bg E N t)=true →
  (∀ (j:Nat) t v,tys[j]?=some t→args[j]?=some v→Value.okWide P w r base t v)→∃ az,Ch E tys az∧Bz w (fun b=>b<w.heap.size) az args []
 | [],args,ds,p,h,_,_=>by
   cases args <;>cases ds <;>simp[DataW.TrodAll] at h
   exact ⟨[],.nil,.nil⟩
 | t::tys,args,ds,p,h,hp,hv=>by
   obtain ⟨v,vs,d,ds',p1,q1,rfl,rfl,rfl,h1,h2⟩:=trodAll_cons h
   simp only[all_cons,zB] at hp
   obtain ⟨az,a1,a2⟩:=Nh hE h2 hp.2 (fun j t v h3 h4=>hv (j+1) t v (by simpa using h3) (by simpa using h4))
   have hp1:=hp.1
   obtain ⟨td,htd⟩:∃ td,E.ty t=some td:=by
    cases N with
    | zero=>simp[Bg] at hp1
    | succ n =>
      simp only[Bg] at hp1
      cases ht:E.ty t with
      | none=>simp[ht] at hp1
      | some td=>exact ⟨td,rfl⟩
   obtain ⟨fuel,hf⟩:=h1
   obtain ⟨ts,hR,hW⟩:=Rw (Fz:=fun b=>b<w.heap.size) hE (fun _ h=>h) htd hp1 hf
   exact ⟨_,.cons htd hW a1,.val (v:=⟨td.agg,shares td.own,ts⟩) (Li (hE t td htd) hp1 htd (hv 0 t v rfl rfl)) hR a2⟩
theorem Gh (hl:laidOutB P=true) {W W':World} (bel:Below W.heap.size W W'):∀ {tys:List Nat} {args:List Value} {ds:List (DataW H)} {p:List MemPlace},(tys.all fun t=>P.readableRec t&&decide (t<P.types.size))=true →
  DataW.TrodAll enc P W 0 (fun _=>true) true tys args ds p→DataW.TrodAll enc P W' 0 (fun b=>decide (b<W.heap.size)) true tys args ds p
 | [],args,ds,p,_,h=>by
   cases args <;>cases ds <;>simp[DataW.TrodAll] at h ⊢
   exact h
 | t::tys,args,ds,p,hr,h=>by
   obtain ⟨v,vs,d,ds',p1,q1,rfl,rfl,rfl,h1,h2⟩:=trodAll_cons h
   simp only[all_cons,zB,decide_eq_true_eq] at hr
   have lt:∀ x∈p1,x.block<W.heap.size:=by
    obtain ⟨m,hm⟩:=h1
    exact DataW.trod_lt m _ _ _ hm
   exact trodAll_cons_mk (Below.trod hl hr.1.1 hr.1.2 h1 bel lt) (Gh hl bel hr.2 h2)
theorem In {b:Nat} {sp:Nat→Bool} {hd:Bool}:∀ {tys:List Nat} {args:List Value} {ds:List (DataW H)} {p:List MemPlace},DataW.TrodAll enc P w b sp hd tys args ds p→ds.length=tys.length
 | [],args,ds,p,h=>by
   cases args <;>cases ds <;>simp[DataW.TrodAll] at h
   rfl
 | t::tys,args,ds,p,h=>by
   obtain ⟨v,vs,d,ds',p1,q1,rfl,rfl,rfl,h1,h2⟩:=trodAll_cons h
   simp[In h2]
theorem law_contract {f:Nat} {fn:Func} {s:ChangeSpec} {tb:Nat} {c:Code} (hm:P.follows .mixedOrders=true) (hE:Bw P E) (hT:∀ f fd,E.fn f=some fd→Dk P E f fd)
  (hf : P.funcs[f]? = some fn) (hname : (fn.name == "runtime.NumGoroutine") = false) (hb : fn.body = some c) (hres : fn.resultTypes = #[tb]) (htb : P.underlying tb = some .bool) (hvars : s.vars = [])
  (hspec:∀ ds:List (DataW H),ds.length=fn.params.toList.length→s.fn H ds = { results:=[.lit (.bool true)],args:=ds }) (hl:laidOutB P=true) {N:Nat} (hp:(fn.params.toList.all fun t=>Bg E N t)=true)
  (hr:(fn.params.toList.all fun t=>P.readableRec t&&decide (t<P.types.size))=true)
  (law:∀ az,Ch E fn.params.toList az→∃ N os,AM E N f az=some ⟨[⟨false,[.leaf],[.bool true]⟩],os⟩)
  {W:World} {base:Nat} {args:Array Value} {ds gs:List (DataW H)} {before:List MemPlace} (hLd:Laid P E.laid W fun b=>b<W.heap.size) (hval:∀ (j:Nat) t v,fn.params[j]?=some t→args[j]?=some v→Value.okWide P W .any base t v)
  (hW:DataW.Whole enc P fn.params.toList s.vars false W args.toList ds gs before) :
  Calls P f args W fun e W'=>∃ v,e = .returned v∧s.post enc P fn false true false false W args v W' :=by
 have hW' :=hW
 obtain ⟨p,q,hA,hV,rfl,hfz,hnd⟩:=hW
 rw[hvars] at hV
 obtain ⟨rfl,rfl⟩:=trodVars_none hV
 obtain ⟨az,hlaw,hargs⟩:=Nh (r:=.any) (base:=base) hE hA hp (fun j t v h1 h2=>hval j t v (by simpa using h1) (by simpa using h2))
 obtain ⟨n,os,hev⟩:=law az hlaw
 have hok:=K2 hm hE hT n f az _ hev W (fun b=>b<W.heap.size) args.toList [] hargs (by simp) (fun _ h=>h) hLd
 have hrun:(callFunc f args.toList.toArray).run P W = .ok (.enter f args.toList.toArray) W:=by
  have h1 : fn.name ≠ "runtime.NumGoroutine" := by simpa using hname
  simp[callFunc,hf,h1,hb]
 rcases hok with ⟨v,w',h1,-⟩ | ⟨-,hc⟩
 ·rw[hrun] at h1;simp at h1
 ·have ea:args.toList.toArray=args:=by simp
  rw[ea] at hc
  refine hc.mono fun e w' he => ?_
  cases e with
  | returned v =>
    obtain ⟨hx,Lt,g,fr,fo,hR,hO,-⟩:=he
    refine ⟨v,rfl,?_⟩
    obtain ⟨xs,hRs,hxs⟩:=hR
    simp only at hxs
    subst hxs
    cases hRs with
    | cons hcells hR1 hr1 =>
      have:=Aa hcells
      subst this
      cases hR1 with
      | leaf hl1 _ =>
        simp only[AG] at hl1
        subst hl1
        have bel:Below W.heap.size W w' :=hx.below (by simp[Mut]) (Nat.le_refl _)
        rw[hvars] at hW'
        have hlen:=In hA
        have hs:=hspec ds hlen
        refine ⟨ds,[],p++[],[],p,[],by rw[hvars];exact hW',?_,?_,?_,bel.frame _,fun h=>by cases h⟩
        ·rw[append_nil,hs,hres]
         exact trodAll_mk1 (shut_bool htb true)
        ·rw[append_nil,hs]
         exact Gh hl bel hr hA
        ·rw[hvars,append_nil,hs];rfl
  | panicked chain=>exact he.elim
  | outgrown=>exact he.elim
end
def Qs:T→T→Bool
 | .int k n,.int k' n'=>k==k'&&n==n'
 | .bool b,.bool b'=>b==b'
 | .flt k x,.flt k' x'=>k==k'&&x==x'
 | .str [],.str []=>true
 | .nil,.nil=>true
 | .lst 0 [],.lst 0 []=>true
 | _,_=>false
theorem QP {a b:T} (h:Qs a b=true):a=b:=by
 unfold Qs at h
 split at h <;>simp_all
def IC:List T→List T→Bool
 | [],[]=>true
 | a::az,b::bs=>Qs a b&&IC az bs
 | _,_=>false
theorem LM:∀ {a b:List T},IC a b=true→a=b
 | [],[],_=>rfl
 | [],_::_,h=>by simp[IC] at h
 | _::_,[],h=>by simp[IC] at h
 | a::az,b::bs,h=>by
   simp only[IC,zB] at h
   rw[QP h.1,LM h.2]
def Ti (E:AX) (d:TD) (u:TypeDesc):Bool:=match d.kd,u with
 | .int k,.int k'=>k==k'
 | .flt k,.float k'=>k==k'
 | .bool,.bool=>true
 | .str,.string=>true
 | .slc e,.slice e'=>Nat.beq e e'&&match E.ty e with
   | some de=>pbeqs d.own [.sl .own de.own]
   | none=>false
 | .ptr e,.pointer e'=>Nat.beq e e'
 | .st fs,.struct fields=>H5 (fields.toList.map fun f=>(f.offset,f.type)) fs
 | .other,_=>true
 | _,_=>false
theorem SR {E:AX} {d:TD} {u:TypeDesc} (h:Ti E d u=true):FS E d u:=by
 unfold Ti at h
 unfold FS
 split at h
 ·rename_i hk;simp only[hk];simp_all
 ·rename_i hk;simp only[hk];simp_all
 ·rename_i hk;simp only[hk]
 ·rename_i hk;simp only[hk]
 ·rename_i e e' hk
  simp only[hk]
  simp only[zB,Nat.beq_eq] at h
  obtain ⟨rfl,h⟩:=h
  refine ⟨rfl,?_⟩
  split at h
  ·rename_i de hde
   exact ⟨de,hde,pbeqs_eq h⟩
  ·simp at h
 ·rename_i e e' hk;simp only[hk];simp_all
 ·rename_i fs fields hk
  simp only[hk]
  exact ⟨fields,rfl,Kv h⟩
 ·rename_i hk;simp only[hk]
 ·simp at h
def Tl (P:Program) (E:AX) (t:Nat) (d:TD):Bool :=
 (match P.info? t with
 | some i=>Nat.beq i.size d.sz&&Nat.beq i.bytes d.bytes&&(match i.zero with
   | some z=>(match Ck z.cells.toList with
     | some ts=>IC ts d.zero
     | none=>false)&&(match d.agg,z with
       | true,.agg _=>true
       | false,z=>z.oneCell'
       | _,_=>false)
   | none=>false)
 | none=>false)&&FM d.own d.zero&&Nat.beq d.own.length d.sz&&Nat.blt 0 d.sz&&(match P.underlying t with
 | some u=>Ti E d u&&(DM u==d.agg)&&(match u with
   | .struct fields=>fields.toList.all fun f=>(P.info? f.type).isSome
   | _=>true)
 | none=>false)
theorem SC {P:Program} {E:AX} {t:Nat} {d:TD} (h:Tl P E t d=true):GN P E t d:=by
 unfold Tl at h
 simp only[zB,Nat.beq_eq] at h
 obtain ⟨⟨⟨⟨h1,h2⟩,h3⟩,h4⟩,h5⟩:=h
 refine ⟨?_,h2,h3,by simpa using h4,?_,?_⟩
 ·split at h1
  ·rename_i i hi
   simp only[zB,Nat.beq_eq] at h1
   obtain ⟨⟨a1,a2⟩,a3⟩:=h1
   split at a3
   ·rename_i z hz
    simp only[zB] at a3
    obtain ⟨b1,b2⟩:=a3
    split at b1
    ·rename_i ts hts
     refine ⟨i,z,hi,a1,a2,hz,by rw[hts,LM b1],?_⟩
     split at b2
     ·rename_i cs hag;rw[hag];exact ⟨cs,rfl⟩
     ·rename_i z' hag;rw[hag];exact LQ b2
     ·simp at b2
    ·simp at b1
   ·simp at a3
  ·simp at h1
 ·split at h5
  ·rename_i u hu
   simp only[zB,beq_iff_eq] at h5
   exact ⟨u,hu,SR h5.1.1,h5.1.2⟩
  ·simp at h5
 ·intro fields hu f hf
  rw[hu] at h5
  simp only[zB,all_eq_true] at h5
  exact h5.2 f hf
def Jr:List (Nat × TD)→Nat→Option TD
 | [],_=>none
 | (i,d)::r,t=>match Nat.beq i t with
   | true=>some d
   | false=>Jr r t
def GU:List (Nat × FD)→Nat→Option FD
 | [],_=>none
 | (i,d)::r,t=>match Nat.beq i t with
   | true=>some d
   | false=>GU r t
theorem PI {l:List (Nat × TD)} {t:Nat} {d:TD} (h:Jr l t=some d):(t,d)∈l:=by
 induction l with
 | nil=>simp[Jr] at h
 | cons x l ih =>
   obtain ⟨i,d'⟩:=x
   simp only[Jr] at h
   split at h
   ·rename_i e
    have e:i=t:=by simpa using e
    simp only[zS] at h
    subst e h;simp
   ·exact mem_cons_of_mem _ (ih h)
theorem M3 {P:Program} {E:AX} {l:List (Nat × TD)} (hE:∀ t,E.ty t=Jr l t) (h:(l.all fun x=>Tl P E x.1 x.2)=true):Bw P E:=by
 intro t d ht
 rw[hE] at ht
 rw[all_eq_true] at h
 exact SC (h _ (PI ht))
inductive ID (P:Program) (E:AX):List (Nat × FD)→Prop
 | nil:ID P E []
 | cons {f fd l} (h:Dk P E f fd) (t:ID P E l):ID P E ((f,fd)::l)
theorem NF {P:Program} {E:AX} {l:List (Nat × FD)} (hE:∀ f,E.fn f=GU l f) (h:ID P E l):∀ f fd,E.fn f=some fd→Dk P E f fd:=by
 intro f fd hf
 rw[hE] at hf
 clear hE
 induction h with
 | nil=>simp[GU] at hf
 | cons h t ih =>
   simp only[GU] at hf
   split at hf
   ·rename_i e
    have e:=Nat.beq_eq.mp e
    simp only[zS] at hf
    subst e hf;exact h
   ·exact ih hf
theorem JE {P : Program} {E : AX} {f : Nat} {fn : Func} {c : Code} {modes : List BX} {outs : List Nat} {results : List (Nat × Option (Bool × Nat))} {keep : List (Nat × List Nat)} (hf : P.funcs[f]? = some fn) (hn : (fn.name == "runtime.NumGoroutine") = false) (hb : fn.body = some c)
  (h:Od E fn c modes outs results=true):Dk P E f (.code c modes outs results keep):=⟨fn,hf,hn,hb,h⟩
theorem handed_laid {H:Type} {enc:TypeId × Value→H} {a:Assume} {C:Checked} {os:Os} {f:FuncId} {fn:Func} {s:ChangeSpec} {conds:List PathCond} {apart fresh handsOn again:Bool} {X:World→Array Value→Prop}
  (hX:∀ (w w':World) (args:Array Value),w.heap=w'.heap→X w args→X w' args)
  (own:ownKnob C.prog.godebug=none) (started:os.Started) (noInit:C.prog.inits.idxOf? f=none) (hfn:C.prog.funcs[f]?=some fn)
  (witness:∃ (w:World) (tape:Tape) (i:Input),w.os=os∧(w.forCall tape i).Shaped C.prog∧i.vars=[]∧Input.okWide C.prog (w.forCall tape i) .any w.heap.size f i ∧
    ((s.pre enc C.prog fn conds apart (w.forCall tape i).memory i.args∧X (w.forCall tape i).memory i.args)∧sizedMet enc C.prog fn (OpenSpec.ofChange s) apart (w.forCall tape i).memory i.args)∧a.holds C.prog (lone (Frame.enter C.prog f i.args .normal) [] (w.forCall tape i)))
  (contract:∀ (W:World) (base:Nat) (args:Array Value) (ds gs:List (DataW H)) (before:List MemPlace),
    (∀ (j:Nat) t v,fn.params[j]?=some t→args[j]?=some v→Value.okWide C.prog W .any base t v) →
    DataW.Whole enc C.prog fn.params.toList s.vars apart W args.toList ds gs before →
    X W args→W.ShapedOpen C.prog →
    Calls C.prog f args W fun e W'=>∃ v,e = .returned v∧s.post enc C.prog fn apart fresh handsOn again W args v W') :
  ReturnsInHanded a C os f .any (fun w args=>(s.pre enc C.prog fn conds apart w args∧X w args)∧sizedMet enc C.prog fn (OpenSpec.ofChange s) apart w args) (s.post enc C.prog fn apart fresh handsOn again):=by
 refine returnsInHanded_of_calls own started noInit witness ?_
 intro w tape i _ hsh _ hok hpre hholds
 obtain ⟨_,_,_,fn',hfn',_,_,_,_,hval⟩:=hok
 have e:fn'=fn:=Option.some.inj (hfn'.symm.trans hfn)
 subst e
 obtain ⟨⟨⟨ds,gs,before,hw,hc⟩,hx⟩,hz⟩:=hpre
 have hw' :=DataW.Whole.of_heap (w' :=w.forCall tape i) (by rfl) hw
 refine (contract (w.forCall tape i) w.heap.size i.args ds gs before hval hw' (hX _ _ _ (by rfl) hx) hsh).mono fun e W' ⟨v,he,hp⟩ => ?_
 subst he
 exact ChangeSpec.post_blind hp
theorem laid_int {P:Program} {w:World} {name:String} {g:Nat} {t:TypeId} {zero:Array Value} (h:w.ShapedOpen P) (hgn:P.globalNamed name=some g) (hg:g<P.globals.size)
  (h0:((begin P (fun _ _=>0) default).world.heap[g]?).bind Obj.row?=some (zero,t)) (hz:zero.size=1)
  (hb:P.buildable t=true) (hc:P.cellTypes P.depth t=some [t]) (hu:P.underlying t=some (.int .i64)) :
  IV P w (fun b=>b<w.heap.size) name (fun row=>∃ m:Int,row = #[.int .i64 m]):=by
 intro g' hg'
 obtain rfl:=Option.some.inj (hgn.symm.trans hg')
 obtain ⟨m,hm⟩:=Go.Proofs.cell_of_shapedOpen_int h hg h0 hz hb hc hu
 obtain ⟨cs,hh,hs,-⟩:=h.1 _ zero t hg h0
 have h1:cs.size=1:=by omega
 simp only[World.cell?,hh] at hm
 have hcs:cs = #[.int .i64 m]:=by
  apply Array.ext
  ·simpa using h1
  ·intro i hi hi'
   have:i=0:=by omega
   subst this
   have:=Array.getElem?_eq_some_iff.1 (by simpa using hm)
   simpa using this.2
 refine ⟨(Array.getElem?_eq_some_iff.1 hh).1,cs,_,_,hh,by omega,m,hcs⟩
theorem tab_of_reads {P:Program} {W:World} {name:String} {k:IntKind} {zs:List Int} {g:Nat} {t e:TypeId} {n:Nat}
  (hg:P.globalNamed name=some g) (hty:(P.globals[g]?).map (·.type)=some t) (ht:P.underlying t=some (.array n e)) (he:P.underlying e=some (.int k)) (hce:P.cellsOf e=1) (hct:P.cellsOf t=n)
  (h:Lib.VarReads P W name (Lib.tabData k zs)) (h0:zs≠[]):IV P W (fun b=>b<W.heap.size) name (fun row=>row=(zs.map fun z=>Value.int k z).toArray):=by
 have hT:Lib.TabIs P W name k zs:=by
  obtain ⟨g',t',cs,fuel,p,hg',ht',hvar,hd⟩:=h
  obtain rfl:=Option.some.inj (hg.symm.trans hg')
  obtain rfl:=Option.some.inj (hty.symm.trans ht')
  unfold Lib.TabIs
  rw[hvar,← Lib.cells_of_tab ht he hce hct hd]
 intro g' hg'
 obtain rfl:=Option.some.inj (hg.symm.trans hg')
 unfold Lib.TabIs World.var? at hT
 rw[hg] at hT
 simp only[Option.bind_some] at hT
 split at hT
 ·rename_i cs e2 fr hh
  simp only[zS] at hT
  refine ⟨(Array.getElem?_eq_some_iff.1 hh).1,cs,_,_,hh,?_,hT⟩
  rw[hT]
  simpa using List.length_pos_iff.2 h0
 ·cases hT
theorem laidIs_maxLen : Gs "internal/bytealg.MaxLen" = fun row => ∃ m : Int, row = #[.int .i64 m] := by
 funext row;unfold Gs;rw[if_pos rfl]
theorem laidIs_pow10 : Gs "internal/strconv.uint64pow10" = fun row => row = (Lib.pow10Tab.map fun z => Value.int .u64 z).toArray := by
 funext row;unfold Gs;rw[if_neg (by decide),if_pos rfl,Lib.pow10Tab,map_map];rfl
def Gj:List Pm→List T→List (Nat × Nat)→Option (Bool × List Pm × List T)
 | ps,cs,[]=>some (true,ps,cs)
 | ps,cs,(e,c)::path=>match ps[c]? with
   | some (.sl .own el)=>match Gj el (Sa cs (ix ps.length e c)) path with
     | none=>none
     | some (g,r)=>some (g&&Ey [.lst] cs (ix ps.length e c),r)
   | _=>none
def Dm (ps:List Pm) (cs:List T):List (Nat × Nat)→Option (Bool × List Pm × List T)
 | []=>some (true,ps,cs)
 | (e,c)::path=>match ps[c]? with
   | some (.sl .own el)=>match cs[ix ps.length e c]? with
     | some (.lst _ cs')=>Gj el cs' path
     | _=>none
   | _=>none
def Cz (ks:List CK) (ps:List Pm) (cs:List T) (pl:AO):Option (Bool × V) :=
 match pl.path with
 | []=>match atPlace ps cs pl with
   | none=>none
   | some v=>some (true,v)
 | path=>match Dm ps cs path with
   | none=>none
   | some (g,el,rcs)=>match Nat.beq ks.length pl.n with
     | false=>none
     | true=>match BO el pl.c pl.n with
       | none=>none
       | some p=>some (g&&Ey ks rcs (ix el.length pl.e pl.c),⟨pl.agg,p,HM ks rcs (ix el.length pl.e pl.c)⟩)
def GA (E:AX) (t:Nat):Option (List CK):=match E.ty t with
 | none=>none
 | some d=>some (d.zero.map S8)
def ST (E:AX) (ty:Nat) (r:Ro):Option (Bool × Option V) :=
 match r with
 | .slot _ (.view _ pl) root=>match root.root with
   | none=>some (true,none)
   | some (p,cs,d)=>match CY d pl with
     | true=>some (true,none)
     | false=>match GA E ty with
       | none=>none
       | some ks=>match Cz ks p cs pl with
         | none=>none
         | some (g,v)=>some (g,some v)
 | r=>some (true,AV E ty r)
def Rt {β:Type} (E:AX) (ty:Nat) (r:Ro) (k:V→Option β):Option β:=match ST E ty r with
 | some (g,some v)=>gd g (k v)
 | _=>none
def DD {β:Type} (E:AX) (ty:Nat) (r:Ro) (k:T→Option β):Option β:=Rt E ty r fun v=>match v with
 | ⟨false,[.leaf],[t]⟩=>k t
 | _=>none
def Ke (k:FloatKind) (x y:Nat):Nat:=match k.format.add x y with
 | some b=>b
 | none=>E5 k
def P6 (k:FloatKind) (x y:Nat):Nat:=match k.format.sub x y with
 | some b=>b
 | none=>E5 k
def MS (k:FloatKind) (x y:Nat):Nat:=match k.format.mul x y with
 | some b=>b
 | none=>E5 k
def fdiv (k:FloatKind) (x y:Nat):Nat:=match k.format.div x y with
 | some b=>b
 | none=>E5 k
def T6 (k:FloatKind) (x y:Nat):Bool:=k.format.order x y==some .eq
def T3 (k:FloatKind) (x y:Nat):Bool:=k.format.order x y != some .eq
def flt (k:FloatKind) (x y:Nat):Bool:=k.format.order x y==some .lt
def S3 (k:FloatKind) (x y:Nat):Bool:=k.format.order x y==some .lt||k.format.order x y==some .eq
def T4 (k:FloatKind) (x y:Nat):Bool:=k.format.order x y==some .gt
def S2 (k:FloatKind) (x y:Nat):Bool:=k.format.order x y==some .gt||k.format.order x y==some .eq
def Tz (m:Bool) (k:FloatKind) (x y:Nat):Nat:=match k.format.order x y with
 | none=>E5 k
 | some .lt=>if m then y else x
 | some .gt=>if m then x else y
 | some .eq=>if (k.decode x).neg==m then y else x
def SQ (op:BinOp) (k:FloatKind) (x y:Nat):Option T:=match op with
 | .add=>some (.flt k (Ke k x y))
 | .sub=>some (.flt k (P6 k x y))
 | .mul=>some (.flt k (MS k x y))
 | .quo=>some (.flt k (fdiv k x y))
 | .eql=>some (.bool (T6 k x y))
 | .neq=>some (.bool (T3 k x y))
 | .lss=>some (.bool (flt k x y))
 | .leq=>some (.bool (S3 k x y))
 | .gtr=>some (.bool (T4 k x y))
 | .geq=>some (.bool (S2 k x y))
 | _=>none
def Sc (x:Option T):Option (Bool × T):=match x with
 | none=>none
 | some t=>some (true,t)
def SD (op:BinOp):T→T→Option (Bool × T)
 | .int k x,.int k' y=>match op with
   | .shl=>some (decide (0≤y),.int k (k.wrap (x * 2 ^ min y.toNat k.bits)))
   | .shr=>some (decide (0≤y),.int k (x.fdiv (2 ^ min y.toNat k.bits)))
   | .quo=>if k=k' then some (!decide (y=0),.int k (k.wrap (x.tdiv y))) else none
   | .rem=>if k=k' then some (!decide (y=0),.int k (x.tmod y)) else none
   | op=>Sc (BK op (.int k x) (.int k' y))
 | .flt k x,.flt k' y=>if k=k' then Sc (SQ op k x y) else none
 | .str a,.str b=>match op with
   | .add=>some (decide (a.length+b.length≤4611686018427387904),.str (a++b))
   | op=>Sc (BK op (.str a) (.str b))
 | u,v=>Sc (BK op u v)
def Qc {β:Type} (kd:Kd) (u:T) (k:T→Option β):Option β:=match kd,u with
 | .int k',.flt s x=>bd (Eb s x k') fun n=>k (.int k' n)
 | .flt k',.flt s x=>bd (HE s x k') fun y=>k (.flt k' y)
 | kd,u=>match Ib kd u with
   | none=>none
   | some t=>k t
def Ll (m:Bool):T→T→Option T
 | .flt k x,.flt k' y=>if k=k' then some (.flt k (Tz m k x y)) else none
 | u,v=>G7 m u v
def F0 (m:Bool) (t:T):List T→Option T
 | []=>some t
 | u::us=>match Ll m t u with
   | none=>none
   | some r=>F0 m r us
def EC (o:Oper) (t:T):A9:=⟨AL o (.val false [.leaf] [t] [] 0),none⟩
structure FV where
 cf : {β:Type}→Nat→List Am→(By→Option β)→Option β
 lp : {β:Type}→Nat→AS→(Ex→AS→Option β)→Option β
def fall {β:Type} (x:Option (A9 × Bool)) (k:A9→Bool→Option β):Option β:=match x with
 | none=>none
 | some (out,u)=>k out u
def Hk {β:Type} (x:Option A9) (u:Bool) (k:A9→Bool→Option β):Option β:=match x with
 | none=>none
 | some out=>k out u
def Pw {β:Type} (E:AX) (o:Oper) (t:Nat) (r:Ro) (k:A9→Bool→Option β):Option β :=
 match E.ty t with
 | none=>none
 | some d=>match A1 r with
   | some (j,pl,root)=>match root.root with
     | none=>none
     | some (p,cs,_)=>match Cz (d.zero.map S8) p cs { pl with n:=d.sz,agg:=d.agg } with
       | none=>none
       | some (g,v)=>gd g (if noOwns v.p then k ⟨AL o (Qz v),none⟩ false else k ⟨AL o (.view j { pl with n:=d.sz,agg:=d.agg }),none⟩ false)
   | none=>Hk (EB E o t r) false k
def OH {β:Type} (E:AX) (o:Oper) (s:Nat) (r:Ro) (f:Nat) (k:A9→Bool→Option β):Option β :=
 match r with
 | .slot _ (.view j pl) _=>match pl.path with
   | []=>Hk (Ez E o s r f) false k
   | _=>match E.ty s with
     | none=>none
     | some d=>match d.kd with
       | .st fs=>match fs[f]? with
         | none=>none
         | some (off,ty)=>match E.ty ty with
           | none=>none
           | some d'=>Rt E s r fun v=>match v.agg with
             | false=>none
             | true=>match BO v.p off d'.sz with
               | none=>none
               | some p=>match CG v.cs off d'.sz with
                 | none=>none
                 | some c=>if noOwns p then k ⟨AL o (.val d'.agg p c [] 0),none⟩ false else k ⟨AL o (.view j { pl with c:=pl.c+off,n:=d'.sz,agg:=d'.agg }),none⟩ false
       | _=>none
 | r=>Hk (Ez E o s r f) false k
def LY (E:AX) (t:Nat):Option (List CK):=match E.ty t with
 | none=>none
 | some d=>match d.kd with
   | .slc e=>GA E e
   | _=>none
def Gy {β:Type} (E:AX) (g:Nat) (o:Oper) (t:Nat) (r ri:Ro) (iTy:Nat) (k:A9→Bool→Option β):Option β :=
 DD E iTy ri fun ti=>match ti with
 | .int _ i=>Rt E t r fun v=>match v with
   | ⟨false,[.sl fl el],[.lst n cs]⟩=>match DE E t el.length&&fl.live g with
     | false=>none
     | true=>match fl with
       | .own=>match r with
         | .slot _ (.view j pl) _=>gd (decide (0≤i∧i<(n:Int))) (k ⟨AL o (.ptr j ⟨pl.path++[(pl.e,pl.c)],i.toNat,0,el.length,false⟩),none⟩ true)
         | .slot j _ _=>gd (decide (0≤i∧i<(n:Int))) (k ⟨AL o (.ptr j ⟨[(0,0)],i.toNat,0,el.length,false⟩),none⟩ true)
         | _=>none
       | fl=>match LY E t with
         | none=>none
         | some ks=>match Nat.beq ks.length el.length with
           | false=>none
           | true=>gd (decide (0≤i∧i<(n:Int))&&Ey ks cs (ix el.length i.toNat 0)) (k ⟨AL o (.val false [.rf fl el] [.ref (HM ks cs (ix el.length i.toNat 0))] [] 0),none⟩ true)
   | _=>none
 | _=>none
def EI (s:List UInt8) (j:Nat):Int:=match s[j]? with
 | some b=>b.toNat
 | none=>0
def OA {β:Type} (E:AX) (o:Oper) (t:Nat) (r ri:Ro) (iTy:Nat) (k:A9→Bool→Option β):Option β :=
 DD E iTy ri fun ti=>match ti with
 | .int _ i=>DD E t r fun ts=>match ts with
   | .str s=>match Hj E t with
     | false=>none
     | true=>gd (decide (0≤i∧i<(s.length:Int))) (k (EC o (.int .u8 (EI s i.toNat))) false)
   | _=>none
 | _=>none
def HD {β:Type} (E:AX) (o:Oper) (t:Nat) (l:Ro) (lTy:Nat) (k:A9→Bool→Option β):Option β :=
 match E.ty t with
 | some d=>match d.kd with
   | .slc e=>match E.ty e with
     | none=>none
     | some de=>DD E lTy l fun tl=>match tl with
       | .int .i64 n=>match Nat.ble de.bytes 1024 with
         | false=>none
         | true=>gd (decide (0≤n∧n≤(Q3:Int))) (k ⟨AL o (.val false [.sl .own de.own] [.lst n.toNat (reps n.toNat de.zero)] [] 0),none⟩ false)
       | _=>none
   | _=>none
 | none=>none
def IQ {β:Type} (E:AX) (ty:Nat) (d:Int) (r:Option Ro) (k:Int→Option β):Option β:=match r with
 | none=>k d
 | some r=>DD E ty r fun t=>match t with
   | .int _ n=>k n
   | _=>none
def IB {β:Type} (E:AX) (o:Oper) (t:Nat) (r:Ro) (lo hi:Option Ro) (iTy:Nat) (g:Nat) (k:A9→Bool→Option β):Option β :=
 Rt E t r fun v=>match v with
 | ⟨false,[.leaf],[.str s]⟩=>IQ E iTy 0 lo fun l=>IQ E iTy s.length hi fun h=>match Hj E t with
   | false=>none
   | true=>gd (decide (0≤l∧l≤h∧h≤(s.length:Int))) (k ⟨AL o (.val false [.leaf] [.str ((s.drop l.toNat).take (h.toNat - l.toNat))] [] 0),none⟩ true)
 | ⟨false,[.sl fl el],[.lst n cs]⟩=>IQ E iTy 0 lo fun l=>IQ E iTy n hi fun h=>match DE E t el.length&&fl.live g with
   | false=>none
   | true=>gd (decide (0≤l∧l≤h∧h≤(n:Int))) (
      let c:T:=.lst (h.toNat - l.toNat) ((cs.drop (ix el.length l.toNat 0)).take (ix el.length (h.toNat - l.toNat) 0))
      match fl with
      | .shr=>k ⟨AL o (.val false [.sl .shr el] [c] [] 0),none⟩ true
      | .lent g'=>k ⟨AL o (.val false [.sl (.lent g') el] [c] [] 0),none⟩ true
      | .own=>match noOwns el || !Ap el with
        | true=>k ⟨AL o (.val false [.sl (.lent g) (lentifies g el)] [c] [] 0),none⟩ true
        | false=>match r with
          | .slot _ (.view kk pl) root=>match pl.path with
            | []=>match root.root with
              | none=>none
              | some (p,rcs,d)=>k ⟨AL o (.val false [.mv g el] [c] [] 0)++[(kk,root.withRoot p (Aj rcs (ix p.length pl.e pl.c) [.lst n (DY el l.toNat (h.toNat - l.toNat) cs)]) (([pl.c],0,el.length)::d))],none⟩ true
            | _=>none
          | _=>none)
 | _=>none
def Rv {β:Type} (E:AX) (g:Nat) (o:Oper) (t:Nat) (r:Ro) (k:A9→Bool→Option β):Option β :=
 Rt E t r fun v=>match v with
 | ⟨false,[.leaf],[.str s]⟩=>if Hj E t then k (EC o (.int .i64 s.length)) true else none
 | ⟨false,[.sl fl el],[.lst n _]⟩=>if DE E t el.length&&fl.live g then k (EC o (.int .i64 n)) true else none
 | _=>none
def I3 (f:List T→List T):List Pm→List T→List (Nat × Nat)→List T
 | _,cs,[]=>f cs
 | ps,cs,(e,c)::path=>match ps[c]? with
   | some (.sl .own el)=>cs.set (ix ps.length e c) (.lst (Sm cs (ix ps.length e c)) (I3 f el (Sa cs (ix ps.length e c)) path))
   | _=>cs
def FF (f:List T→List T) (ps:List Pm) (cs:List T):List (Nat × Nat)→List T
 | []=>f cs
 | (e,c)::path=>match ps[c]? with
   | some (.sl .own el)=>match cs[ix ps.length e c]? with
     | some (.lst n cs')=>cs.set (ix ps.length e c) (.lst n (I3 f el cs' path))
     | _=>cs
   | _=>cs
def TA {β:Type} (b:Option Bool) (x:Option β):Option β:=match b with
 | none=>x
 | some b=>gd b x
def RQ (a b:Option Bool):Option Bool:=match a with
 | none=>b
 | some x=>match b with
   | none=>some x
   | some y=>some (x&&y)
def Fk (root:AA) (pl:AO) (hs:List T) (n:Nat):Option (Bool × AA) :=
 match root.root with
 | none=>none
 | some (p,cs,d)=>match Dm p cs pl.path with
   | none=>none
   | some (g,el,_)=>some (g,root.withRoot p (FF (fun rcs=>Aj rcs (ix el.length pl.e pl.c) hs) p cs pl.path) ((Dx pl.path,pl.c,n)::d))
def J1 (E:AX) (g:Nat) (ty:Nat) (r:Ro):Option (Option Bool × V × List (Nat × AA)) :=
 match r with
 | .slot t (.view j pl) root=>match pl.path with
   | []=>match FL E g ty (.slot t (.view j pl) root) with
     | none=>none
     | some (v,us)=>some (none,v,us)
   | _=>match Nat.ble pl.n 0 with
     | true=>none
     | false=>match ST E ty (.slot t (.view j pl) root) with
       | some (gg,some v)=>match Al g v.p with
         | false=>none
         | true=>match noOwns v.p with
           | true=>none
           | false=>match Bn v.p v.cs with
             | none=>none
             | some hs=>match Fk root pl hs pl.n with
               | none=>none
               | some (g2,s)=>some (some (gg&&g2),v,[(j,s)])
       | _=>none
 | r=>match FL E g ty r with
   | none=>none
   | some (v,us)=>some (none,v,us)
def Dt (E:AX) (g:Nat) (tys:Nat→Option Nat):List (Nat × Ro)→Option (Option Bool × List (Nat × V) × List (Nat × AA))
 | []=>some (none,[],[])
 | (i,r)::rest=>match tys i with
   | none=>none
   | some ty=>match J1 E g ty r with
     | none=>none
     | some (gg,v,u)=>match Dt E g tys rest with
       | none=>none
       | some (g2,vs,us)=>some (RQ gg g2,(i,v)::vs,u++us)
def FX {β:Type} (E:AX) (g:Nat) (o:Oper) (t len:Nat) (parts:List (Nat × Ro)) (k:A9→Bool→Option β):Option β :=
 match E.ty t with
 | some d=>match d.kd with
   | .slc e=>match E.ty e with
     | none=>none
     | some de=>if Nat.ble (len * de.sz) 65536 then (match Dt E g (fun _=>some e) parts with
       | none=>none
       | some (gg,vs,us)=>match LP (DI de.own vs) (fun i=>some (i * de.sz,de.sz)) (reps len de.zero) vs with
         | none=>none
         | some cs=>if BL (us.map (·.1)) then TA gg (k ⟨AL o (.val false [.sl .own (DI de.own vs)] [.lst len cs] [] 0)++us,none⟩ true) else none) else none
   | _=>none
 | none=>none
def H3 (E:AX) (t1:Nat) (s:Ro):Option (Option Bool × Nat × List T × List Pm × List (Nat × AA)) :=
 match s with
 | .slot t (.view j pl) root=>match pl.path with
   | []=>match Du E t1 (.slot t (.view j pl) root) with
     | none=>none
     | some r=>some (none,r)
   | _=>match root.pinned with
     | true=>none
     | false=>match ST E t1 (.slot t (.view j pl) root) with
       | some (gg,some ⟨false,[.sl .own el],[.lst n cs]⟩)=>match Fk root pl [.nil] 1 with
         | none=>none
         | some (g2,s)=>some (some (gg&&g2),n,cs,el,[(j,s)])
       | _=>none
 | s=>match Du E t1 s with
   | none=>none
   | some r=>some (none,r)
def IM (E:AX) (g t2:Nat) (x:Ro):Option (Bool × Nat × List T × List Pm × List (Nat × AA)) :=
 match x with
 | .slot t (.view j pl) root=>match pl.path with
   | []=>match Di E g t2 (.slot t (.view j pl) root) with
     | none=>none
     | some r=>some (true,r)
   | _=>match ST E t2 (.slot t (.view j pl) root) with
     | some (gg,some ⟨false,[.sl fl el],[.lst m cs]⟩)=>if DE E t2 el.length∧fl.live g then (if noOwns el then some (gg,m,cs,el,[]) else none) else none
     | _=>none
 | x=>match Di E g t2 x with
   | none=>none
   | some r=>some (true,r)
def Lk {β:Type} (E:AX) (g:Nat) (o:Oper) (t1 t2:Nat) (s x:Ro) (k:A9→Bool→Option β):Option β :=
 match E.ty t1 with
 | some d=>match d.kd with
   | .slc e=>match E.ty e with
     | none=>none
     | some de=>match H3 E t1 s with
       | none=>none
       | some (g1,n,cs,el,us)=>match IM E g t2 x with
         | none=>none
         | some (gg,m,cs',el',us')=>match Oc n el el'&&Al g el'&&BL ((us++us').map (·.1))&&Nat.ble de.bytes 1024&&el'.length==de.sz with
           | false=>none
           | true=>TA g1 (gd (gg&&Nat.ble (n+m) Q3) (k ⟨AL o (.val false [.sl .own el'] [.lst (n+m) (cs++cs')] [] 0)++(us++us'),none⟩ true))
   | _=>none
 | none=>none
def Ny {β:Type} (E:AX) (g:Nat) (t:Nat) (r x:Ro) (k:A9→Bool→Option β):Option β :=
 match A1 r with
 | none=>none
 | some (j,pl,root)=>match pl.path with
   | []=>match E.ty t with
     | none=>none
     | some d=>match root.root with
       | none=>none
       | some (p,cs,dd)=>match J1 E g t x with
         | none=>none
         | some (gg,v,us)=>match BO p pl.c d.sz with
           | none=>none
           | some _=>match CG cs (ix p.length pl.e pl.c) d.sz with
             | none=>none
             | some _=>match v.cs.length==d.sz && !(us.any fun u=>u.1==j) && !root.pinned with
               | false=>none
               | true=>TA gg (k ⟨us++[(j,root.withRoot (BH p pl.c v.p) (Aj cs pl.c v.cs) (([],pl.c,d.sz)::dd))],none⟩ true)
   | path=>match E.ty t with
     | none=>none
     | some d=>match root.root with
       | none=>none
       | some (p,cs,dd)=>match J1 E g t x with
         | none=>none
         | some (g1,v,us)=>match Dm p cs path with
           | none=>none
           | some (gg,el,rcs)=>match BO el pl.c d.sz with
             | none=>none
             | some q=>match v.cs.length==d.sz && !(us.any fun u=>u.1==j)&&pbeqs v.p q&&Nat.blt 0 d.sz with
               | false=>none
               | true=>TA g1 (gd (gg&&Nat.ble (ix el.length pl.e pl.c+d.sz) rcs.length)
                  (k ⟨us++[(j,root.withRoot p (FF (fun rcs=>Aj rcs (ix el.length pl.e pl.c) v.cs) p cs path) ((Dx path,pl.c,d.sz)::dd))],some (g+1)⟩ true))
def MF {β:Type} (E:AX) (o:Oper) (r:Ro) (old:AA) (k:A9→Bool→Option β):Option β :=
 match r with
 | .slot t (.view j pl) root=>match pl.path with
   | []=>Hk (C4 E o (.slot t (.view j pl) root) old) false k
   | path=>if old.pinned then none else match o.dst with
     | none=>none
     | some dst=>if t=dst then none else if j=dst then none else match root with
       | .val _ p cs d pin=>if pin != 0||CY d pl then none else if Nat.ble pl.n 0 then none else match GA E o.type with
         | none=>none
         | some ks=>match Cz ks p cs pl with
           | none=>none
           | some (g,v)=>match Dm p cs path with
             | none=>none
             | some (gg,el,_)=>match Bn v.p v.cs with
               | none=>none
               | some hs=>gd (g&&gg) (k ⟨[(dst,.val v.agg v.p v.cs BD 0),(j,root.withRoot p (FF (fun rcs=>Aj rcs (ix el.length pl.e pl.c) hs) p cs path) ((Dx path,pl.c,pl.n)::d))],none⟩ false)
       | .box p cs d _=>if CY d pl then none else if Nat.ble pl.n 0 then none else match GA E o.type with
         | none=>none
         | some ks=>match Cz ks p cs pl with
           | none=>none
           | some (g,v)=>match Dm p cs path with
             | none=>none
             | some (gg,el,_)=>match Bn v.p v.cs with
               | none=>none
               | some hs=>gd (g&&gg) (k ⟨[(dst,.val v.agg v.p v.cs BD 0),(j,root.withRoot p (FF (fun rcs=>Aj rcs (ix el.length pl.e pl.c) hs) p cs path) ((Dx path,pl.c,pl.n)::d))],none⟩ false)
       | _=>none
 | r=>Hk (C4 E o r old) false k
def Jc {β:Type} (E:AX) (g:Nat) (o:Oper) (src dst:Nat) (r:Ro) (k:A9→Bool→Option β):Option β :=
 match E.ty dst with
 | none=>none
 | some d=>Rt E src r fun v=>match v with
   | ⟨false,[.leaf],[u]⟩=>if Ly E src then Qc d.kd u fun t=>k (EC o t) true else none
   | ⟨false,[.sl fl [.leaf]],[.lst _ cs]⟩=>if I8 E src&&fl.live g then (match d.kd with
     | .str=>bd (Cb cs) fun bs=>k (EC o (.str bs)) true
     | _=>none) else none
   | _=>none
def Mn (E:AX):List Nat→List Ro→Option (Bool × List (Option V))
 | ty::tys,r::rs=>match ST E ty r with
   | none=>none
   | some (g,o)=>match Mn E tys rs with
     | none=>none
     | some (g',os)=>some (g&&g',o::os)
 | _,_=>some (true,[])
def Hi:List (Option V)→Bool
 | o::os=>(match o with
   | some v=>noLents v.p
   | none=>true)&&Hi os
 | []=>true
def HF:List BX→List (Option V)→Bool
 | .val::ms,o::os=>(match o with
   | some v=>noOwns v.p&&noLents v.p
   | none=>false)&&HF ms os
 | _::ms,_::os=>HF ms os
 | _,_=>true
def Nx (E:AX) (gm:Option Nat) (m:BX) (ty:Nat) (r:Ro) (o:Option V):Option (Bool × Am × List (Nat × AO)) :=
 match m with
 | .val=>match o with
   | some v=>some (true,⟨.val,⟨v.agg,shareBy gm v.p,v.cs⟩⟩,[])
   | none=>match r with
     | .slot _ (.ptr _ pl) root=>match pl.path with
       | []=>match CL E gm .val ty r with
         | none=>none
         | some (a,ks)=>some (true,a,ks)
       | _=>match E.ty ty with
         | none=>none
         | some d=>match d.kd with
           | .ptr e=>match GA E e with
             | none=>none
             | some ks=>match root.root with
               | none=>none
               | some (p,cs,dd)=>match BF dd pl with
                 | true=>none
                 | false=>match Cz ks p cs pl with
                   | none=>none
                   | some (g,v)=>match Nat.ble pl.n 0 with
                     | true=>none
                     | false=>some (g,⟨.val,⟨false,[.rf .shr (shareBy gm v.p)],[.ref v.cs]⟩⟩,[])
           | _=>none
     | r=>match CL E gm .val ty r with
       | none=>none
       | some (a,ks)=>some (true,a,ks)
 | .io=>match Da r with
   | none=>none
   | some (k,pl,root)=>match pl.path with
     | []=>match CL E gm .io ty r with
       | none=>none
       | some (a,ks)=>some (true,a,ks)
     | _=>match root.root with
       | none=>none
       | some (p,cs,d)=>match CY d pl||Nat.ble pl.n 0 with
         | true=>none
         | false=>match GA E ty with
           | none=>none
           | some ks=>match Cz ks p cs pl with
             | none=>none
             | some (g,v)=>match noLents v.p with
               | true=>some (g,⟨.io,v⟩,[(k,pl)])
               | false=>none
 | m=>match CL E gm m ty r with
   | none=>none
   | some (a,ks)=>some (true,a,ks)
def JX (a:Am) (pl:AO) (root:AA) (v:V):Option (Bool × AA):=match pl.path with
 | []=>match CC a pl root v with
   | none=>none
   | some s=>some (true,s)
 | path=>match a.m with
   | .io=>match root.root with
     | none=>none
     | some (p,cs,d)=>match pbeqs v.p a.v.p&&v.cs.length==pl.n with
       | false=>match J9 v.p&&v.p.length==pl.n&&v.cs.length==pl.n with
         | false=>none
         | true=>match Bn a.v.p a.v.cs with
           | none=>none
           | some hs=>Fk root pl hs pl.n
       | true=>match Dm p cs path with
         | none=>none
         | some (g,el,_)=>some (g,root.withRoot p (FF (fun rcs=>Aj rcs (ix el.length pl.e pl.c) v.cs) p cs path) ((Dx path,pl.c,pl.n)::d))
   | _=>none
def CR (roots:Nat→AA):List Am→List (Nat × AO)→List V→Option (Bool × List (Nat × AA))
 | [],[],[]=>some (true,[])
 | a::az,ks,vs=>match a.m with
   | .val=>CR roots az ks vs
   | _=>match ks,vs with
     | (k,pl)::ks,v::vs=>match JX a pl (roots k) v with
       | none=>none
       | some (g,s)=>match CR roots az ks vs with
         | none=>none
         | some (g',us)=>some (g&&g',(k,s)::us)
     | _,_=>none
 | _,_,_=>none
def Cm (E:AX) (gm:Option Nat):List BX→List Nat→List Ro→List (Option V)→Option (Bool × List Am × List (Nat × AO))
 | [],[],[],_=>some (true,[],[])
 | m::ms,ty::tys,r::rs,o::os=>match Nx E gm m ty r o with
   | none=>none
   | some (g,a,ks)=>match Cm E gm ms tys rs os with
     | none=>none
     | some (g',az,ks')=>some (g&&g',a::az,ks++ks')
 | _,_,_,_=>none
def M4 {β:Type} (E:AX) (O:FV) (o:Oper) (f:Nat) (tys:List Nat) (rs:List Ro) (g:Nat) (k:A9→Bool→Option β):Option β :=
 match E.fn f with
 | none=>none
 | some fd=>match Mn E tys rs with
   | none=>none
   | some (g0,os) =>
     if (fd.modes rs.length).all Gf then
      (if Hi os then
        (match Cm E none (fd.modes rs.length) tys rs os with
        | none=>none
        | some (g1,az,_)=>gd g0 (gd g1 (O.cf f az fun r=>if FI (HF (fd.modes rs.length) os) r.rs then k ⟨AW o r.rs,none⟩ false else none)))
      else match Cm E (some g) (fd.modes rs.length) tys rs os with
       | none=>none
       | some (g1,az,_)=>gd g0 (gd g1 (O.cf f az fun r=>if FI false r.rs then k ⟨AW o r.rs,none⟩ true else none)))
     else match Cm E none (fd.modes rs.length) tys rs os with
      | none=>none
      | some (g1,az,ks) =>
        if BL (ks.map (·.1)) && !((CA (fd.modes rs.length) rs).any fun k=>(ks.map (·.1)).any fun k'=>k==k') then
         gd g0 (gd g1 (O.cf f az fun r=>if FI (HF (fd.modes rs.length) os) r.rs&&FI (HF (fd.modes rs.length) os) (r.outs.filterMap id) then (match CR (BV rs) az ks (r.outs.filterMap id) with
          | none=>none
          | some (g2,us)=>gd g2 (if BL ((AW o r.rs++us).map (·.1)) then k ⟨AW o r.rs++us,some (g+1)⟩ true else none)) else none))
        else none
def Em {β:Type} (E:AX):List Nat→List Ro→(List T→Option β)→Option β
 | [],[],k=>k []
 | ty::tys,r::rs,k=>DD E ty r fun t=>Em E tys rs fun ts=>k (t::ts)
 | _,_,_=>none
def Ta {β:Type} (E:AX) (O:FV) (o:Oper) (rs:List Ro) (old:AA) (g:Nat) (k:A9→Bool→Option β):Option β :=
 match o.op,rs with
 | .pick _ _ _,[c,x,y]=>DD E 0 c fun t=>match t with
   | .bool b=>br b (Hk (BW E o x) false k) (Hk (BW E o y) false k)
   | _=>none
 | .load t _,[r]=>Pw E o t r k
 | .assign _,[r]=>MF E o r old k
 | .buildSlice t len parts,rs=>FX E g o t len ((parts.toList.map (·.1)).zip rs) k
 | .store t _ _,[r,x]=>if o.dst.isSome then none else Ny E g t r x k
 | .binOp op xt _ _ yt,[x,y]=>DD E xt x fun u=>DD E yt y fun v=>if NP E xt u then (match SD op u v with
   | none=>none
   | some (gg,t)=>gd gg (k (EC o t) false)) else none
 | .unOp op xt _,[x]=>DD E xt x fun u=>match Q5 op u with
   | none=>none
   | some t=>k (EC o t) false
 | .convert src dst _,[x]=>Jc E g o src dst x k
 | .makeSlice t l c,[x,_]=>if C9 l c then HD E o t x 0 k else none
 | .slice t _ lo hi none,r::rs=>match lo,hi,rs with
   | none,none,[]=>IB E o t r none none 0 g k
   | some _,none,[x]=>IB E o t r (some x) none 0 g k
   | none,some _,[y]=>IB E o t r none (some y) 0 g k
   | some _,some _,[x,y]=>IB E o t r (some x) (some y) 0 g k
   | _,_,_=>none
 | .field s _ f,[r]=>OH E o s r f k
 | .indexAddr t _ _,[r,i]=>Gy E g o t r i 0 k
 | .index t _ _,[r,i]=>OA E o t r i 0 k
 | .call c,rs=>match c.callee with
   | .builtin b=>match b,c.argTypes.toList,rs with
     | .len,[t],[r]=>Rv E g o t r k
     | .append,[t1,t2],[s,x]=>Lk E g o t1 t2 s x k
     | .max,tys,rs=>Em E tys rs fun ts=>match ts with
       | t::ts=>match F0 true t ts with
         | none=>none
         | some t=>k (EC o t) false
       | _=>none
     | .min,tys,rs=>Em E tys rs fun ts=>match ts with
       | t::ts=>match F0 false t ts with
         | none=>none
         | some t=>k (EC o t) false
       | _=>none
     | _,_,_=>none
   | .value (.func f)=>M4 E O o f c.argTypes.toList (rs.drop 1) g k
   | .value _=>match rs with
     | .clo _ f caps::rs=>M4 E O o f (c.argTypes.toList++caps.map fun _=>0) (rs++caps.map fun x => .slot x.1 (.ptr x.1 x.2.1) x.2.2) g k
     | .slot _ (.val false [.fn ps] [.fn f ts] _ _) _::rs=>M4 E O o f (c.argTypes.toList++ps.map fun _=>0) (rs++(ps.zip ts).map fun x => .v ⟨false,[x.1],[x.2]⟩) g k
     | _=>none
   | _=>none
 | _,_=>fall (Ao E (fun _ _=>none) o rs old g) k
def SB {β:Type} (E:AX) (O:FV) (o:Oper) (f:List Nat) (σ:AS) (k:C6→Option β):Option β :=
 Ta E O o (AQ σ.env o.op) (GS σ.env o) σ.g fun out usesG=>if C0 o (GS σ.env o) out.ups then k ⟨out.ups,out.g,
    f++Jh o.op (AQ σ.env o.op) out.ups++DL o++(if usesG then [G] else []),
    out.ups.map (·.1)++JC σ.env out.ups++(match out.g with
     | none=>[]
     | some _=>[G])⟩ else none
def AA.withBool (c:Bool):AA→AA
 | .val a p [.bool _] d pin => .val a p [.bool c] d pin
 | s=>s
def QO:List (Nat × AA)→Nat→Bool→List (Nat × AA)
 | [],_,_=>[]
 | (j,s)::r,d,c=>match Nat.beq j d with
   | true=>(j,s.withBool c)::r
   | false=>(j,s)::QO r d c
def Qi {β:Type} (ops:Array Oper) (o:Oper) (σ:AS) (k:AS→Option β):Option β :=
 match o.guard with
 | none=>k σ
 | some (j,_)=>match (ops[j]?).bind (·.dst) with
   | none=>none
   | some d=>match AE σ.env d with
     | .val false [.leaf] [.bool b] _ _=>br b (k ⟨QO σ.env d true,σ.g⟩) (k ⟨QO σ.env d false,σ.g⟩)
     | _=>k σ
def Pv {β:Type} (E:AX) (O:FV) (ops:Array Oper) (o:Oper) (σ:AS) (k:C6→Option β):Option β :=
 match D3 ops σ.env o with
 | none=>none
 | some (true,f)=>SB E O o f σ k
 | some (false,f)=>k ⟨AL o .und,none,f,DL o++(DL o).map CD⟩
def Hv {β:Type} (E:AX) (O:FV) (ops:Array Oper):List Oper→AS→List (List Nat × List Nat)→(AS→List (List Nat × List Nat)→Option β)→Option β
 | [],σ,fs,k=>k σ fs.reverse
 | o::os,σ,fs,k=>Qi ops o σ fun σ=>Pv E O ops o σ fun st=>Hv E O ops os ⟨Ae st.ups σ.env,st.g.getD σ.g⟩ ((st.foot,st.writes)::fs) k
def Re:Code→Nat
 | .region id _ _=>16 * id
 | .seq a _=>Re a
 | .cond _ x _=>Re x
 | .block _ x=>Re x
 | .loop x=>Re x+1
 | _=>0
def rg {β:Type} (σ:AS) (k:AS→Option β):Option β:=k σ
def Dg {β:Type} (E:AX) (O:FV) (keep:List (Nat × List Nat)):Code→AS→(Ex→AS→Option β)→Option β
 | .skip,σ,k=>k .normal σ
 | .region id ops draw,σ,k=>rg (settle (A4 keep id) σ) fun σ=>Hv E O ops ops.toList σ [] fun σ' fs=>if !draw||Cf (Region.before ops) 0 [] fs then k .normal σ' else none
 | .seq a b,σ,k=>Dg E O keep a σ fun ex σ'=>match ex with
   | .normal=>Dg E O keep b σ' k
   | .exit id=>k (.exit id) σ'
   | .ret=>k .ret σ'
 | .cond c x y,σ,k=>DD E 0 (AB σ.env c) fun t=>match t with
   | .bool b=>br b (Dg E O keep x σ k) (Dg E O keep y σ k)
   | _=>none
 | .block id body,σ,k=>Dg E O keep body σ fun ex σ'=>match ex with
   | .exit id'=>if id'=id then k .normal σ' else k (.exit id') σ'
   | .normal=>k .normal σ'
   | .ret=>k .ret σ'
 | .loop body,σ,k=>O.lp (Re body) (settle (A4 keep (BC body)) σ) k
 | .exit id,σ,k=>k (.exit id) σ
 | .ret,σ,k=>k .ret σ
 | _,_,_=>none
def BA:Code→List Code
 | .loop b=>[b]
 | .seq a b=>BA a++BA b
 | .cond _ a b=>BA a++BA b
 | .block _ a=>BA a
 | _=>[]
def Dn:Code→List Code
 | .loop b=>b::Dn b
 | .seq a b=>Dn a++Dn b
 | .cond _ a b=>Dn a++Dn b
 | .block _ a=>Dn a
 | _=>[]
def BQ (c:Code) (i:Nat):Code:=(Dn c).getD i .skip
def TG {β:Type} (E:AX) (O:FV) (f:Nat) (az:List Am) (k:By→Option β):Option β :=
 match E.fn f with
 | some (.code c modes outs results keep)=>if CO modes az then Dg E O keep c ⟨Ft 0 az,0⟩ fun ex σ=>match MZ modes outs results keep (some (ex,σ)) with
   | none=>none
   | some r=>k r else none
 | _=>none
theorem Nk {cs:List T} {j:Nat} (h:Ey [.lst] cs j=true):cs[j]?=some (.lst (Sm cs j) (Sa cs j)):=by
 simp only[Ey,Bool.and_true] at h
 split at h
 ·rename_i t ht
  cases t <;>simp[Qn] at h
  simp[Sm,Sa,ht]
 ·simp at h
theorem HT:∀ {path:List (Nat × Nat)} {ps:List Pm} {cs:List T} {r:List Pm × List T},Gj ps cs path=some (true,r)→rowAt ps cs path=some r
 | [],ps,cs,r,h=>by simp only[Gj,zS,zP,true_and] at h;rw[← h];rfl
 | (e,c)::path,ps,cs,r,h=>by
   simp only[Gj] at h
   split at h
   ·rename_i el hc
    split at h
    ·simp at h
    ·rename_i g r' hr
     simp only[zS,zP,zB] at h
     obtain ⟨⟨rfl,h2⟩,rfl⟩:=h
     simp only[rowAt,hc,Nk h2]
     exact HT hr
   ·simp at h
theorem Br {path:List (Nat × Nat)} {ps:List Pm} {cs:List T} {r:List Pm × List T} (h:Dm ps cs path=some (true,r)):rowAt ps cs path=some r:=by
 cases path with
 | nil=>simp only[Dm,zS,zP,true_and] at h;rw[← h];rfl
 | cons ec path =>
   obtain ⟨e,c⟩:=ec
   simp only[Dm] at h
   split at h
   ·rename_i el hc
    split at h
    ·rename_i n cs' hcs
     simp only[rowAt,hc,hcs]
     exact HT h
    ·simp at h
   ·simp at h
theorem BJ {ks:List CK} {ps:List Pm} {cs:List T} {pl:AO} {v:V} (h:Cz ks ps cs pl=some (true,v)):atPlace ps cs pl=some v:=by
 unfold Cz at h
 split at h
 ·split at h
  ·simp at h
  ·rename_i v' hv
   simp only[zS,zP,true_and] at h
   rw[hv,h]
 ·split at h
  ·simp at h
  rename_i g el rcs hr
  split at h
  ·simp at h
  rename_i hl
  have hl:ks.length=pl.n:=by simpa using hl
  split at h
  ·simp at h
  rename_i p hp
  simp only[zS,zP,zB] at h
  obtain ⟨⟨rfl,h2⟩,rfl⟩:=h
  have:=HC h2
  rw[hl] at this
  simp only[atPlace,Br hr,hp,this]
theorem De {E:AX} {ty:Nat} {r:Ro} {o:Option V} (h:ST E ty r=some (true,o)):AV E ty r=o:=by
 unfold ST at h
 split at h
 ·rename_i t j pl root
  split at h
  ·rename_i hr
   simp only[zS,zP,true_and] at h
   simp only[AV,hr,← h]
  ·rename_i p cs d hr
   split at h
   ·rename_i hst
    simp only[zS,zP,true_and] at h
    simp only[AV,hr,hst,← h,if_true]
   ·rename_i hst
    split at h
    ·simp at h
    ·split at h
     ·simp at h
     ·rename_i ks _ g v hat
      simp only[zS,zP] at h
      obtain ⟨rfl,rfl⟩:=h
      simp only[AV,hr,hst,Bool.false_eq_true,if_false,BJ hat]
 ·simp only[zS,zP,true_and] at h
  exact h
theorem Df {β:Type} {E:AX} {ty:Nat} {r:Ro} {k:V→Option β} {x:β} (h:Rt E ty r k=some x):∃ v,AV E ty r=some v∧k v=some x:=by
 unfold Rt at h
 split at h
 ·rename_i g v hr
  obtain ⟨rfl,h2⟩:=Ax h
  exact ⟨v,De hr,h2⟩
 ·simp at h
theorem Au {β:Type} {E:AX} {ty:Nat} {r:Ro} {k:T→Option β} {x:β} (h:DD E ty r k=some x):∃ t,As E ty r=some t∧k t=some x:=by
 obtain ⟨v,h1,h2⟩:=Df h
 split at h2
 ·rename_i t
  exact ⟨t,by simp only[As,h1],h2⟩
 ·simp at h2
theorem GE {x:Option T} {t:T} {g:Bool} (h:Sc x=some (g,t)):x=some t:=by
 cases x <;>simp[Sc] at h
 rw[h.2]
theorem N9 {op:BinOp} {k:FloatKind} {x y:Nat} {t:T} (h:SQ op k x y=some t):BK op (.flt k x) (.flt k y)=some t:=by
 cases op <;>simp only[SQ] at h <;>first | (simp only[BK,if_true];exact h) | (simp at h)
theorem Nz {op:BinOp} {u v t:T} (h:SD op u v=some (true,t)):BK op u v=some t:=by
 unfold SD at h
 split at h
 ·rename_i k x k' y
  split at h
  ·simp only[zS,zP,decide_eq_true_eq] at h
   simp only[BK];rw[if_pos h.1,h.2]
  ·simp only[zS,zP,decide_eq_true_eq] at h
   simp only[BK];rw[if_pos h.1,h.2]
  ·split at h
   ·rename_i e
    simp only[zS,zP,Bool.not_eq_true',decide_eq_false_iff_not] at h
    simp only[BK];rw[if_pos e,if_neg h.1,h.2]
   ·simp at h
  ·split at h
   ·rename_i e
    simp only[zS,zP,Bool.not_eq_true',decide_eq_false_iff_not] at h
    simp only[BK];rw[if_pos e,if_neg h.1,h.2]
   ·simp at h
  ·exact GE h
 ·split at h
  ·rename_i e;subst e
   exact N9 (GE h)
  ·simp at h
 ·rename_i a b
  split at h
  ·simp only[zS,zP,decide_eq_true_eq] at h
   simp only[BK];rw[if_pos h.1,h.2]
  ·exact GE h
 ·exact GE h
theorem Mx {β:Type} {kd:Kd} {u:T} {k:T→Option β} {x:β} (h:Qc kd u k=some x):∃ t,Ib kd u=some t∧k t=some x:=by
 unfold Qc at h
 split at h
 ·obtain ⟨n,h1,h2⟩:=Bv h
  exact ⟨_,by simp only[Ib,h1],h2⟩
 ·obtain ⟨n,h1,h2⟩:=Bv h
  exact ⟨_,by simp only[Ib,h1],h2⟩
 ·split at h
  ·simp at h
  ·rename_i t ht
   exact ⟨t,ht,h⟩
theorem Kg {m:Bool} {u v t:T} (h:Ll m u v=some t):G7 m u v=some t:=by
 unfold Ll at h
 split at h
 ·rename_i k x k' y
  split at h
  ·rename_i e;subst e
   simp only[zS] at h
   subst h
   simp only[G7,ne_eq,not_true_eq_false,if_false,Tz]
   split <;>(first | rfl | simp_all)
  ·simp at h
 ·exact h
theorem Dw {m:Bool}:∀ {us:List T} {t r:T},F0 m t us=some r→Ct m t us=some r
 | [],t,r,h=>h
 | u::us,t,r,h=>by
   simp only[F0] at h
   split at h
   ·simp at h
   ·rename_i t' ht
    simp only[Ct,Kg ht]
    exact Dw h
theorem CN (o:Oper) (t:T):A3 o (some t)=some (EC o t):=rfl
section
variable {β:Type} {E:AX} {O:FV} {cf:Nat→List Am→Option By} {o:Oper} {k:A9→Bool→Option β} {x:β}
theorem Bi {y:Option A9} {u:Bool} (h:Hk y u k=some x):∃ out,y=some out∧k out u=some x:=by
 unfold Hk at h
 split at h
 ·simp at h
 ·exact ⟨_,rfl,h⟩
theorem M1 {t:Nat} {r:Ro} (h:Pw E o t r k=some x):∃ out,EB E o t r=some out∧k out false=some x:=by
 unfold Pw at h
 split at h
 ·simp at h
 rename_i d hd
 split at h
 ·rename_i j pl root hp
  split at h
  ·simp at h
  rename_i p cs dd hr
  split at h
  ·simp at h
  rename_i g v hat
  obtain ⟨rfl,h⟩:=Ax h
  have:=BJ hat
  unfold EB
  simp only[hd,hp,hr,this]
  split at h
  ·rename_i hn
   exact ⟨_,by rw[if_pos hn],h⟩
  ·rename_i hn
   exact ⟨_,by rw[if_neg hn],h⟩
 ·exact Bi h
theorem MO {s:Nat} {r:Ro} {f:Nat} (h:OH E o s r f k=some x):∃ out,Ez E o s r f=some out∧k out false=some x:=by
 unfold OH at h
 split at h
 ·rename_i t j pl root
  split at h
  ·exact Bi h
  ·split at h
   ·simp at h
   rename_i d hd
   split at h
   ·rename_i fs hk
    split at h
    ·simp at h
    rename_i off ty hf
    split at h
    ·simp at h
    rename_i d' hd'
    obtain ⟨v,hv,h⟩:=Df h
    split at h
    ·simp at h
    rename_i hag
    split at h
    ·simp at h
    rename_i p hp
    split at h
    ·simp at h
    rename_i c hc
    unfold Ez
    simp only[hd,hk,hf,hd',hv,hag,hp,hc,Bool.not_true,Bool.false_eq_true,if_false]
    split at h
    ·rename_i hn
     exact ⟨_,by rw[if_pos hn],h⟩
    ·rename_i hn
     exact ⟨_,by rw[if_neg hn],h⟩
   ·simp at h
 ·exact Bi h
theorem H4 {t n:Nat} {ks:List CK}:LY E t=some ks→Nat.beq ks.length n=true→ks.length=n:=fun _ h=>by simpa using h
theorem IW {g t iTy:Nat} {r ri:Ro} (h:Gy E g o t r ri iTy k=some x):∃ out,C1 E g o t r ri iTy=some out∧k out true=some x:=by
 unfold Gy at h
 obtain ⟨ti,h1,h⟩:=Au h
 split at h
 ·rename_i ik i
  obtain ⟨v,h2,h⟩:=Df h
  split at h
  ·rename_i fl el n cs
   unfold C1
   simp only[h1,h2]
   split at h
   ·simp at h
   rename_i hst
   simp only[zB] at hst
   split at h
   ·split at h
    ·obtain ⟨hb,h⟩:=Ax h
     have hb:=of_decide_eq_true hb
     exact ⟨_,by rw[if_pos ⟨hb.1,hb.2,hst.1,hst.2⟩],h⟩
    ·rename_i j s root hns _ _
     obtain ⟨hb,h⟩:=Ax h
     have hb:=of_decide_eq_true hb
     refine ⟨_,?_,h⟩
     rw[if_pos ⟨hb.1,hb.2,hst.1,hst.2⟩]
     cases s <;>first | rfl | exact (hns _ _ rfl).elim
    ·simp at h
   ·rename_i hfl
    split at h
    ·simp at h
    rename_i ks hks
    split at h
    ·simp at h
    rename_i hl
    obtain ⟨hb,h⟩:=Ax h
    simp only[zB] at hb
    have hb1:=of_decide_eq_true hb.1
    have hc:=HC hb.2
    rw[H4 hks hl] at hc
    refine ⟨_,?_,h⟩
    rw[if_pos ⟨hb1.1,hb1.2,hst.1,hst.2⟩]
    cases fl with
    | own=>exact absurd rfl (hfl)
    | shr=>simp only[hc]
    | lent g'=>simp only[hc]
  ·simp at h
 ·simp at h
theorem MQ {t iTy:Nat} {r ri:Ro} (h:OA E o t r ri iTy k=some x):∃ out,Hp E o t r ri iTy=some out∧k out false=some x:=by
 unfold OA at h
 obtain ⟨ti,h1,h⟩:=Au h
 split at h
 ·rename_i ik i
  obtain ⟨ts,h2,h⟩:=Au h
  split at h
  ·rename_i s
   split at h
   ·simp at h
   rename_i hst
   obtain ⟨hb,h⟩:=Ax h
   have hb:=of_decide_eq_true hb
   have hlt:i.toNat<s.length:=by omega
   unfold Hp
   simp only[h1,h2]
   refine ⟨_,?_,h⟩
   rw[if_pos ⟨hb.1,hst⟩]
   simp only[EI,List.getElem?_eq_getElem hlt]
   rfl
  ·simp at h
 ·simp at h
theorem IR {t lTy:Nat} {l:Ro} (h:HD E o t l lTy k=some x):∃ out,C8 E o t l lTy=some out∧k out false=some x:=by
 unfold HD at h
 split at h
 ·rename_i d hd
  split at h
  ·rename_i e hk
   split at h
   ·simp at h
   rename_i de hde
   obtain ⟨tl,h1,h⟩:=Au h
   split at h
   ·rename_i n
    split at h
    ·simp at h
    rename_i hby
    obtain ⟨hb,h⟩:=Ax h
    have hb:=of_decide_eq_true hb
    unfold C8
    simp only[hd,hk,hde,h1]
    exact ⟨_,by rw[if_pos ⟨hb.1,hb.2,by simpa using hby⟩],h⟩
   ·simp at h
  ·simp at h
 ·simp at h
theorem Dc {β:Type} {x:β} {ty:Nat} {d:Int} {r:Option Ro} {k:Int→Option β} (h:IQ E ty d r k=some x):∃ n,Fr E ty d r=some n∧k n=some x:=by
 unfold IQ at h
 split at h
 ·exact ⟨d,rfl,h⟩
 ·obtain ⟨t,h1,h⟩:=Au h
  split at h
  ·exact ⟨_,by simp only[Fr,h1],h⟩
  ·simp at h
theorem Db {t iTy g:Nat} {r:Ro} {lo hi:Option Ro} (h:IB E o t r lo hi iTy g k=some x):∃ out,CB E o t r lo hi iTy g=some out∧k out true=some x:=by
 unfold IB at h
 obtain ⟨v,h1,h⟩:=Df h
 have key:∀ out,Cv E o t r lo hi iTy g=some out→CB E o t r lo hi iTy g=some out:=fun out h=>by unfold CB;rw[h]
 split at h
 ·rename_i s
  obtain ⟨l,h2,h⟩:=Dc h
  obtain ⟨hh,h3,h⟩:=Dc h
  split at h
  ·simp at h
  rename_i hst
  obtain ⟨hb,h⟩:=Ax h
  have hb:=of_decide_eq_true hb
  refine ⟨_,key _ ?_,h⟩
  unfold Cv
  simp only[h1,h2,h3]
  rw[if_pos ⟨hb.1,hb.2.1,hb.2.2,hst⟩]
 ·rename_i fl el n cs
  obtain ⟨l,h2,h⟩:=Dc h
  obtain ⟨hh,h3,h⟩:=Dc h
  split at h
  ·simp at h
  rename_i hst
  simp only[zB] at hst
  obtain ⟨hb,h⟩:=Ax h
  have hb:=of_decide_eq_true hb
  cases fl with
  | shr =>
    refine ⟨_,key _ ?_,h⟩
    unfold Cv
    simp only[h1,h2,h3]
    rw[if_pos ⟨hb.1,hb.2.1,hb.2.2,hst.1,hst.2⟩]
  | lent g' =>
    refine ⟨_,key _ ?_,h⟩
    unfold Cv
    simp only[h1,h2,h3]
    rw[if_pos ⟨hb.1,hb.2.1,hb.2.2,hst.1,hst.2⟩]
  | own =>
    simp only at h
    split at h
    ·rename_i hno
     refine ⟨_,key _ ?_,h⟩
     unfold Cv
     simp only[h1,h2,h3]
     rw[if_pos ⟨hb.1,hb.2.1,hb.2.2,hst.1,hst.2⟩]
     simp only[hno]
    ·rename_i hno
     have hok:Ap el=true:=by
      simp only[Bool.or_eq_false_iff,Bool.not_eq_false'] at hno
      exact hno.2
     have e1:Cv E o t r lo hi iTy g=none:=by
      unfold Cv
      simp only[h1,h2,h3]
      rw[if_pos ⟨hb.1,hb.2.1,hb.2.2,hst.1,hst.2⟩]
      simp only[hno]
     cases r with
     | slot tt s root =>
       cases s with
       | view kk pl =>
         simp only at h
         cases hpath:pl.path with
         | cons a b=>simp[hpath] at h
         | nil =>
           simp only[hpath] at h
           cases hroot:root.root with
           | none=>simp[hroot] at h
           | some pcd =>
             obtain ⟨p,rcs,d⟩:=pcd
             simp only[hroot] at h
             refine ⟨_,?_,h⟩
             unfold CB
             rw[e1]
             simp only[GJ,h1,h2,h3]
             rw[if_pos ⟨hb.1,hb.2.1,hb.2.2,hst.1,hok⟩]
             simp only[hpath,hroot]
       | _=>simp at h
     | _=>simp at h
 ·simp at h
theorem N7 {g t:Nat} {r:Ro} (h:Rv E g o t r k=some x):∃ out,Nd E g o t r=some out∧k out true=some x:=by
 unfold Rv at h
 obtain ⟨v,h1,h⟩:=Df h
 unfold Nd
 split at h
 ·simp only[h1]
  split at h
  ·rename_i hs
   exact ⟨_,by rw[if_pos hs,CN],h⟩
  ·simp at h
 ·simp only[h1]
  split at h
  ·rename_i hs
   simp only[zB] at hs
   exact ⟨_,by rw[if_pos ⟨hs.1,hs.2⟩,CN],h⟩
  ·simp at h
 ·simp at h
theorem GZ {f:List T→List T}:∀ {path:List (Nat × Nat)} {ps:List Pm} {cs:List T} {r:List Pm × List T},Gj ps cs path=some (true,r)→I3 f ps cs path=Ah ps cs path f
 | [],_,_,_,_=>rfl
 | (e,c)::path,ps,cs,r,h=>by
   simp only[Gj] at h
   split at h
   ·rename_i el hc
    split at h
    ·simp at h
    ·rename_i g r' hr
     simp only[zS,zP,zB] at h
     obtain ⟨⟨rfl,h2⟩,rfl⟩:=h
     simp only[I3,Ah,hc,Nk h2,GZ hr]
   ·simp at h
theorem B7 {f:List T→List T} {path:List (Nat × Nat)} {ps:List Pm} {cs:List T} {r:List Pm × List T} (h:Dm ps cs path=some (true,r)):FF f ps cs path=Ah ps cs path f:=by
 cases path with
 | nil=>rfl
 | cons ec path =>
   obtain ⟨e,c⟩:=ec
   simp only[Dm] at h
   split at h
   ·rename_i el hc
    split at h
    ·rename_i n cs' hcs
     simp only[FF,Ah,hc,hcs,GZ h]
    ·simp at h
   ·simp at h
theorem Hs {b:Option Bool} {y:Option β} (h:TA b y=some x):(b=none∨b=some true)∧y=some x:=by
 cases b with
 | none=>exact ⟨.inl rfl,h⟩
 | some b =>
   obtain ⟨rfl,h⟩:=Ax h
   exact ⟨.inr rfl,h⟩
theorem Dz {root s:AA} {pl:AO} {hs:List T} {n:Nat} (h:Fk root pl hs n=some (true,s)):∃ p cs d el rcs,root.root=some (p,cs,d)∧rowAt p cs pl.path=some (el,rcs) ∧
  s=root.withRoot p (Ah p cs pl.path fun rcs=>Aj rcs (ix el.length pl.e pl.c) hs) ((Dx pl.path,pl.c,n)::d):=by
 unfold Fk at h
 split at h
 ·simp at h
 rename_i p cs d hroot
 split at h
 ·simp at h
 rename_i g el rcs hrow
 simp only[zS,zP] at h
 obtain ⟨rfl,rfl⟩:=h
 exact ⟨p,cs,d,el,rcs,hroot,Br hrow,by rw[B7 hrow]⟩
theorem E0 {g ty:Nat} {r:Ro} {b:Option Bool} {v:V} {us:List (Nat × AA)} (h:J1 E g ty r=some (b,v,us)) (hb:b=none∨b=some true):FL E g ty r=some (v,us):=by
 unfold J1 at h
 split at h
 ·rename_i t j pl root
  split at h
  ·split at h
   ·simp at h
   ·rename_i v' us' hr
    simp only[zS,zP] at h
    obtain ⟨-,rfl,rfl⟩:=h
    exact hr
  ·rename_i hpath
   split at h
   ·simp at h
   rename_i hn
   split at h
   ·rename_i gg v' hr
    split at h
    ·simp at h
    rename_i hf
    split at h
    ·simp at h
    rename_i hno
    split at h
    ·simp at h
    rename_i hs hh
    split at h
    ·simp at h
    rename_i g2 s hrow
    simp only[zS,zP] at h
    obtain ⟨rfl,rfl,rfl⟩:=h
    simp only[reduceCtorEq,zS,zB,false_or] at hb
    obtain ⟨rfl,rfl⟩:=hb
    obtain ⟨p,cs,d,el,rcs,h1,h2,rfl⟩:=Dz hrow
    unfold FL
    rw[De hr]
    simp only[hf,hno,Bool.not_true,Bool.false_eq_true,if_false]
    cases hpl:pl.path with
    | nil=>exact absurd hpl hpath
    | cons a b =>
      rw[hpl] at h2
      simp only[hn,Bool.false_eq_true,if_false,h1,h2,hh,hpl]
   ·simp at h
 ·split at h
  ·simp at h
  ·rename_i v' us' hr
   simp only[zS,zP] at h
   obtain ⟨-,rfl,rfl⟩:=h
   exact hr
theorem Q9 {a b:Option Bool} (h:RQ a b=none∨RQ a b=some true):(a=none∨a=some true)∧(b=none∨b=some true):=by
 cases a <;>cases b <;>simp_all [RQ]
theorem EO {g:Nat} {tys:Nat→Option Nat}:∀ {l:List (Nat × Ro)} {b:Option Bool} {vs:List (Nat × V)} {us:List (Nat × AA)},Dt E g tys l=some (b,vs,us)→(b=none∨b=some true)→CI E g tys l=some (vs,us)
 | [],b,vs,us,h,_=>by
   simp only[Dt,zS,zP] at h
   obtain ⟨-,rfl,rfl⟩:=h;rfl
 | (i,r)::l,b,vs,us,h,hb=>by
   simp only[Dt] at h
   split at h
   ·simp at h
   rename_i ty hty
   split at h
   ·simp at h
   rename_i gg v u h1
   split at h
   ·simp at h
   rename_i g2 vs' us' h2
   simp only[zS,zP] at h
   obtain ⟨rfl,rfl,rfl⟩:=h
   obtain ⟨q1,q2⟩:=Q9 hb
   simp only[CI,hty,E0 h1 q1,EO h2 q2]
theorem HJ {g t len:Nat} {parts:List (Nat × Ro)} (h:FX E g o t len parts k=some x):∃ out,Cd E g o t len parts=some out∧k out true=some x:=by
 unfold FX at h
 split at h
 ·rename_i d hd
  split at h
  ·rename_i e hk
   split at h
   ·simp at h
   rename_i de hde
   split at h
   ·rename_i hb
    split at h
    ·simp at h
    rename_i gg vs us h1
    split at h
    ·simp at h
    rename_i cs hf
    split at h
    ·rename_i hnd
     obtain ⟨hg,h⟩:=Hs h
     unfold Cd
     simp only[hd,hk,hde]
     exact ⟨_,by rw[if_pos hb,EO h1 hg];simp only[hf];rw[if_pos hnd],h⟩
    ·simp at h
   ·simp at h
  ·simp at h
 ·simp at h
theorem Iw {t1:Nat} {s:Ro} {b:Option Bool} {r:Nat × List T × List Pm × List (Nat × AA)} (h:H3 E t1 s=some (b,r)) (hb:b=none∨b=some true):Du E t1 s=some r:=by
 unfold H3 at h
 split at h
 ·rename_i t j pl root
  split at h
  ·split at h
   ·simp at h
   ·rename_i r' hr
    simp only[zS,zP] at h
    rw[hr,h.2]
  ·rename_i hpath
   split at h
   ·simp at h
   rename_i hpin
   split at h
   ·rename_i gg el n cs hr
    split at h
    ·simp at h
    rename_i g2 s hrow
    simp only[zS,zP] at h
    obtain ⟨rfl,rfl⟩:=h
    simp only[reduceCtorEq,zS,zB,false_or] at hb
    obtain ⟨rfl,rfl⟩:=hb
    obtain ⟨p,cs',d,el2,rcs,h1,h2,rfl⟩:=Dz hrow
    unfold Du
    rw[De hr]
    simp only[hpin,Bool.false_eq_true,if_false,h1]
    cases hpl:pl.path with
    | nil=>exact absurd hpl hpath
    | cons a b =>
      rw[hpl] at h2
      simp only[h2,hpl]
   ·simp at h
 ·split at h
  ·simp at h
  ·rename_i r' hr
   simp only[zS,zP] at h
   rw[hr,h.2]
theorem Iz {g t2:Nat} {y:Ro} {r:Nat × List T × List Pm × List (Nat × AA)} (h:IM E g t2 y=some (true,r)):Di E g t2 y=some r:=by
 unfold IM at h
 split at h
 ·split at h
  ·split at h
   ·simp at h
   ·rename_i r' hr
    simp only[zS,zP,true_and] at h
    rw[hr,h]
  ·split at h
   ·rename_i gg fl el m cs hr
    split at h
    ·rename_i hc
     split at h
     ·rename_i hn
      simp only[zS,zP] at h
      obtain ⟨rfl,rfl⟩:=h
      unfold Di
      rw[De hr]
      simp only
      rw[if_pos hc,if_pos hn]
     ·simp at h
    ·simp at h
   ·simp at h
 ·split at h
  ·simp at h
  ·rename_i r' hr
   simp only[zS,zP,true_and] at h
   rw[hr,h]
theorem Km {g t1 t2:Nat} {s y:Ro} (h:Lk E g o t1 t2 s y k=some x):∃ out,Eh E g o t1 t2 s y=some out∧k out true=some x:=by
 unfold Lk at h
 split at h
 ·rename_i d hd
  split at h
  ·rename_i e hk
   split at h
   ·simp at h
   rename_i de hde
   split at h
   ·simp at h
   rename_i g1 n cs el us h1
   split at h
   ·simp at h
   rename_i gg m cs' el' us' h2
   split at h
   ·simp at h
   rename_i hst
   simp only[zB] at hst
   obtain ⟨hg1,h⟩:=Hs h
   have h1:=Iw h1 hg1
   obtain ⟨hb,h9⟩:=Ax h
   simp only[zB] at hb
   obtain ⟨rfl,hb⟩:=hb
   have h2:=Iz h2
   unfold Eh
   simp only[hd,hk,hde,h1,h2]
   exact ⟨_,by rw[if_pos (by simp only[zB];exact ⟨⟨⟨⟨hst.1.1.1,hst.1.1.2⟩,hb⟩,hst.1.2⟩,hst.2⟩)],h9⟩
  ·simp at h
 ·simp at h
theorem MA {g t:Nat} {r y:Ro} (h:Ny E g t r y k=some x):∃ out row,D2 E g t r y=some (out,row)∧(if row then k ⟨out.ups,some (g+1)⟩ true else k out true)=some x:=by
 unfold Ny at h
 split at h
 ·simp at h
 rename_i j pl root hp
 split at h
 ·rename_i hpath
  split at h
  ·simp at h
  rename_i d hd
  split at h
  ·simp at h
  rename_i p cs dd hr
  split at h
  ·simp at h
  rename_i gg v us ht
  split at h
  ·simp at h
  rename_i q hq
  split at h
  ·simp at h
  rename_i c hc
  split at h
  ·simp at h
  rename_i hst
  simp only[zB,beq_iff_eq] at hst
  obtain ⟨⟨s1,s2⟩,s3⟩:=hst
  obtain ⟨hb,h'⟩:=Hs h
  have ht' :=E0 ht hb
  have s3:root.pinned=false:=by simpa using s3
  unfold D2
  simp only[hd,hp,hr,ht',hpath,rowAt,hq,hc]
  rw[if_pos ⟨s1,s2⟩]
  simp only[s3,Bool.false_eq_true,if_false]
  exact ⟨_,false,rfl,by simpa using h'⟩
 ·rename_i path hpath
  split at h
  ·simp at h
  rename_i d hd
  split at h
  ·simp at h
  rename_i p cs dd hr
  split at h
  ·simp at h
  rename_i g1 v us ht
  split at h
  ·simp at h
  rename_i gg el rcs hrow
  split at h
  ·simp at h
  rename_i q hq
  split at h
  ·simp at h
  rename_i hst
  simp only[zB,beq_iff_eq] at hst
  obtain ⟨⟨⟨s1,s2⟩,s3⟩,s4⟩:=hst
  obtain ⟨hb1,h1⟩:=Hs h
  have ht' :=E0 ht hb1
  obtain ⟨hb,h'⟩:=Ax h1
  clear h h1
  simp only[zB,Nat.ble_eq] at hb
  obtain ⟨rfl,hb⟩:=hb
  have hrow' :=Br hrow
  unfold D2
  simp only[hd,hp,hr,ht',hrow',hq,GG hb]
  rw[if_pos ⟨s1,s2⟩]
  have hset:=B7 (f:=fun rcs=>Aj rcs (ix el.length pl.e pl.c) v.cs) hrow
  cases hpl:pl.path with
  | nil=>exact absurd hpl hpath
  | cons a b =>
    refine ⟨_,true,by rw[if_pos s3],?_⟩
    simp only[if_true]
    rw[hset,hpl] at h'
    exact h'
theorem Kc {r:Ro} {old:AA} (h:MF E o r old k=some x):∃ out,C4 E o r old=some out∧k out false=some x:=by
 unfold MF at h
 split at h
 ·rename_i t j pl root
  split at h
  ·exact Bi h
  ·rename_i hpath
   split at h
   ·simp at h
   rename_i hold
   split at h
   ·simp at h
   rename_i dst hd
   split at h
   ·simp at h
   rename_i htd
   split at h
   ·simp at h
   rename_i hjd
   split at h
   ·rename_i a p cs d pin
    split at h
    ·simp at h
    rename_i hps
    split at h
    ·simp at h
    rename_i hn
    split at h
    ·simp at h
    rename_i ks hks
    split at h
    ·simp at h
    rename_i g v hv
    split at h
    ·simp at h
    rename_i gg el rcs hrow
    split at h
    ·simp at h
    rename_i hs hh
    obtain ⟨hb,h'⟩:=Ax h
    clear h
    simp only[zB] at hb
    obtain ⟨rfl,rfl⟩:=hb
    have hset:=B7 (f:=fun rcs=>Aj rcs (ix el.length pl.e pl.c) hs) hrow
    rw[hset] at h'
    refine ⟨_,?_,h'⟩
    unfold C4
    rw[if_neg hold]
    simp only[hd]
    rw[if_neg htd,if_neg hjd,if_neg hps]
    cases hpl:pl.path with
    | nil=>exact absurd hpl hpath
    | cons a b =>
      rw[if_neg hn,BJ hv]
      have hrow' :=Br hrow
      rw[hpl] at hrow'
      simp only[hrow',hh]
   ·rename_i p cs d pin
    split at h
    ·simp at h
    rename_i hps
    split at h
    ·simp at h
    rename_i hn
    split at h
    ·simp at h
    rename_i ks hks
    split at h
    ·simp at h
    rename_i g v hv
    split at h
    ·simp at h
    rename_i gg el rcs hrow
    split at h
    ·simp at h
    rename_i hs hh
    obtain ⟨hb,h'⟩:=Ax h
    clear h
    simp only[zB] at hb
    obtain ⟨rfl,rfl⟩:=hb
    have hset:=B7 (f:=fun rcs=>Aj rcs (ix el.length pl.e pl.c) hs) hrow
    rw[hset] at h'
    refine ⟨_,?_,h'⟩
    unfold C4
    rw[if_neg hold]
    simp only[hd]
    rw[if_neg htd,if_neg hjd,if_neg hps]
    cases hpl:pl.path with
    | nil=>exact absurd hpl hpath
    | cons a b =>
      rw[if_neg hn,BJ hv]
      have hrow' :=Br hrow
      rw[hpl] at hrow'
      simp only[hrow',hh]
   ·simp at h
 ·exact Bi h
theorem KL {g src dst:Nat} {r:Ro} (h:Jc E g o src dst r k=some x):∃ out,Ed E g o src dst r=some out∧k out true=some x:=by
 unfold Jc at h
 split at h
 ·simp at h
 rename_i d hd
 obtain ⟨v,h1,h⟩:=Df h
 unfold Ed
 split at h
 ·rename_i u
  simp only[hd,h1]
  split at h
  ·rename_i hl
   obtain ⟨t,h2,h⟩:=Mx h
   exact ⟨_,by rw[if_pos hl,h2,CN],h⟩
  ·simp at h
 ·rename_i fl n cs
  simp only[hd,h1]
  split at h
  ·rename_i hl
   split at h
   ·rename_i hk
    obtain ⟨bs,h2,h⟩:=Bv h
    refine ⟨_,?_,h⟩
    rw[if_pos hl]
    simp only[hk,h2,CN]
   ·simp at h
  ·simp at h
 ·simp at h
end
def FV.CfOk (O:FV) (cf:Nat→List Am→Option By):Prop :=
 ∀ (β:Type) (f:Nat) (az:List Am) (k:By→Option β) (x:β),O.cf f az k=some x→∃ r,cf f az=some r∧k r=some x
theorem FG {E:AX}:∀ {tys:List Nat} {rs:List Ro} {os:List (Option V)},Mn E tys rs=some (true,os)→E3 E tys rs=Hi os∧(∀ ms,ms.length=tys.length→BB E ms tys rs=HF ms os)
 | [],rs,os,h=>by
   simp only[Mn,zS,zP,true_and] at h
   subst h
   refine ⟨rfl,fun ms hm => ?_⟩
   have:ms=[]:=length_eq_zero_iff.1 hm
   subst this;cases rs <;>rfl
 | ty::tys,[],os,h=>by
   simp only[Mn,zS,zP,true_and] at h
   subst h
   refine ⟨rfl,fun ms hm => ?_⟩
   cases ms with
   | nil=>rfl
   | cons m ms=>cases m <;>rfl
 | ty::tys,r::rs,os,h=>by
   simp only[Mn] at h
   split at h
   ·simp at h
   rename_i g o ho
   split at h
   ·simp at h
   rename_i g' os' hos
   simp only[zS,zP,zB] at h
   obtain ⟨⟨rfl,rfl⟩,rfl⟩:=h
   obtain ⟨h1,h2⟩:=FG hos
   have hr:=De ho
   refine ⟨by simp only[E3,Hi,hr,h1];cases o <;>rfl,fun ms hm => ?_⟩
   cases ms with
   | nil=>simp at hm
   | cons m ms =>
     have h3:=h2 ms (by simpa using hm)
     cases m with
     | val=>simp only[BB,HF,hr,h3];cases o <;>rfl
     | io=>simp only[BB,HF,h3]
     | iop=>simp only[BB,HF,h3]
theorem MX {E:AX} {gm:Option Nat} {m:BX} {ty:Nat} {r:Ro} {o:Option V} {a:Am} {ks:List (Nat × AO)} (hr:AV E ty r=o) (h:Nx E gm m ty r o=some (true,a,ks)):CL E gm m ty r=some (a,ks):=by
 have key:∀ m,(match CL E gm m ty r with | none=>none | some (a,ks)=>some (true,a,ks))=some (true,a,ks)→CL E gm m ty r=some (a,ks):=by
  intro m h
  split at h
  ·simp at h
  ·rename_i a' ks' hm
   simp only[zS,zP,true_and] at h
   obtain ⟨rfl,rfl⟩:=h
   exact hm
 unfold Nx at h
 split at h
 ·split at h
  ·rename_i v
   simp only[zS,zP,true_and] at h
   obtain ⟨rfl,rfl⟩:=h
   simp only[CL,hr]
  ·split at h
   ·rename_i t j pl root
    split at h
    ·exact key .val h
    ·split at h
     ·simp at h
     split at h
     ·split at h
      ·simp at h
      split at h
      ·simp at h
      rename_i p cs dd hroot
      split at h
      ·simp at h
      rename_i hst
      split at h
      ·simp at h
      rename_i g v hat
      split at h
      ·simp at h
      rename_i hn
      simp only[zS,zP] at h
      obtain ⟨rfl,rfl,rfl⟩:=h
      have hp:A1 (.slot t (.ptr j pl) root)=some (j,pl,root):=by
       simp only[A1,hroot,hst,Bool.false_eq_true,if_false]
      simp only[CL,hr,hp,hroot,BJ hat,hn,Bool.false_eq_true,if_false]
     ·simp at h
   ·exact key .val h
 ·split at h
  ·simp at h
  rename_i k pl root hio
  split at h
  ·exact key .io h
  ·rename_i hpath
   split at h
   ·simp at h
   rename_i p cs d hroot
   split at h
   ·simp at h
   rename_i hst
   split at h
   ·simp at h
   split at h
   ·simp at h
   rename_i g v hat
   split at h
   ·rename_i hnl
    simp only[zS,zP] at h
    obtain ⟨rfl,rfl,rfl⟩:=h
    simp only[Bool.or_eq_false_iff] at hst
    have hpe:pl.path.isEmpty=false:=by
     cases hpp:pl.path with
     | nil=>exact absurd hpp hpath
     | cons=>rfl
    simp only[CL,hio,hroot,hst.1,hst.2,hpe,Bool.false_and,Bool.or_false,Bool.false_eq_true,if_false,BJ hat,hnl,if_true]
   ·simp at h
 ·exact key _ h
theorem JS {a:Am} {pl:AO} {root s:AA} {v:V} (h:JX a pl root v=some (true,s)):CC a pl root v=some s:=by
 unfold JX at h
 split at h
 ·split at h
  ·simp at h
  ·rename_i s' hs
   simp only[zS,zP,true_and] at h
   rw[hs,h]
 ·rename_i hpath
  split at h
  ·rename_i hm
   split at h
   ·simp at h
   rename_i p cs d hroot
   split at h
   ·rename_i hc
    split at h
    ·simp at h
    rename_i hdd
    split at h
    ·simp at h
    rename_i hs hh
    obtain ⟨p',cs',d',el,rcs,h1,h2,rfl⟩:=Dz h
    rw[hroot] at h1
    obtain ⟨rfl,rfl,rfl⟩:p=p'∧cs=cs'∧d=d' :=by simpa using h1
    simp only[CC,hroot,hm,hc,Bool.false_eq_true,if_false,hdd,if_true]
    cases hpl:pl.path with
    | nil=>exact absurd hpl hpath
    | cons a b =>
      rw[hpl] at h2
      simp only[h2,hh]
   rename_i hc
   split at h
   ·simp at h
   rename_i g el rcs hrow
   simp only[zS,zP] at h
   obtain ⟨rfl,rfl⟩:=h
   simp only[CC,hroot,hm,hc,if_true]
   have hr:=Br hrow
   split
   ·rename_i hpp;rw[hr] at hpp;simp at hpp
   ·rename_i hpp
    rw[hr] at hpp
    simp only[zS,zP] at hpp
    obtain ⟨rfl,rfl⟩:=hpp
    rw[B7 hrow]
  ·simp at h
theorem DH {roots:Nat→AA}:∀ {az:List Am} {ks:List (Nat × AO)} {vs:List V} {us:List (Nat × AA)},CR roots az ks vs=some (true,us)→B6 roots az ks vs=some us
 | [],[],[],us,h=>by simp only[CR,zS,zP,true_and] at h;rw[← h];rfl
 | [],_::_,_,us,h=>by simp[CR] at h
 | [],[],_::_,us,h=>by simp[CR] at h
 | a::az,ks,vs,us,h=>by
   simp only[CR] at h
   simp only[B6]
   split at h
   ·rename_i hm
    simp only[hm]
    exact DH h
   ·rename_i hm
    split at h
    ·rename_i k pl ks v vs
     split at h
     ·simp at h
     rename_i g s hs
     split at h
     ·simp at h
     rename_i g' us' hus
     simp only[zS,zP,zB] at h
     obtain ⟨⟨rfl,rfl⟩,rfl⟩:=h
     split
     ·rename_i e;exact absurd e hm
     ·simp only[JS hs,DH hus]
    ·simp at h
theorem Cw {E:AX} {gm:Option Nat}:∀ {ms:List BX} {tys:List Nat} {rs:List Ro} {os:List (Option V)} {az:List Am} {ks:List (Nat × AO)},Mn E tys rs=some (true,os)→Cm E gm ms tys rs os=some (true,az,ks)→BG E gm ms tys rs=some (az,ks)
 | [],[],[],os,az,ks,_,h=>by
   simp only[Cm,zS,zP,true_and] at h
   obtain ⟨rfl,rfl⟩:=h;rfl
 | [],[],_::_,os,az,ks,_,h=>by simp[Cm] at h
 | [],_::_,_,os,az,ks,_,h=>by simp[Cm] at h
 | _::_,[],_,os,az,ks,_,h=>by simp[Cm] at h
 | _::_,_::_,[],os,az,ks,_,h=>by simp[Cm] at h
 | m::ms,ty::tys,r::rs,os,az,ks,hr,h=>by
   simp only[Mn] at hr
   split at hr
   ·simp at hr
   rename_i g o ho
   split at hr
   ·simp at hr
   rename_i g' os' hos
   simp only[zS,zP,zB] at hr
   obtain ⟨⟨rfl,rfl⟩,rfl⟩:=hr
   simp only[Cm] at h
   split at h
   ·simp at h
   rename_i g1 a ks1 h1
   split at h
   ·simp at h
   rename_i g2 as2 ks2 h2
   simp only[zS,zP,zB] at h
   obtain ⟨⟨rfl,rfl⟩,rfl,rfl⟩:=h
   simp only[BG,MX (De ho) h1,Cw hos h2]
theorem G2 {E:AX} {gm:Option Nat}:∀ {ms:List BX} {tys:List Nat} {rs:List Ro} {x},BG E gm ms tys rs=some x→ms.length=tys.length
 | [],[],rs,x,_=>rfl
 | [],_::_,rs,x,h=>by simp[BG] at h
 | _::_,[],rs,x,h=>by simp[BG] at h
 | _::_,_::_,[],x,h=>by simp[BG] at h
 | m::ms,ty::tys,r::rs,x,h=>by
   simp only[BG] at h
   split at h
   ·simp at h
   ·split at h
    ·simp at h
    ·rename_i h2
     simp[G2 h2]
section
variable {β:Type} {E:AX} {O:FV} {cf:Nat→List Am→Option By} {o:Oper} {k:A9→Bool→Option β} {x:β}
theorem Fj (hO:O.CfOk cf) {f:Nat} {tys:List Nat} {rs:List Ro} {g:Nat} (h:M4 E O o f tys rs g k=some x):∃ out u,Co E cf o f tys rs g=some (out,u)∧k out u=some x:=by
 unfold M4 at h
 split at h
 ·simp at h
 rename_i fd hfd
 split at h
 ·simp at h
 rename_i g0 os hos
 unfold Co
 simp only[hfd]
 split at h
 ·rename_i hall
  rw[if_pos hall]
  split at h
  ·rename_i hnl
   split at h
   ·simp at h
   rename_i g1 az ks hm
   obtain ⟨hg0,h'⟩:=Ax h
   obtain ⟨hg1,h''⟩:=Ax h'
   clear h h'
   subst hg0 hg1
   obtain ⟨r,hr,h⟩:=hO _ _ _ _ _ h''
   obtain ⟨e1,e2⟩:=FG hos
   have hm' :=Cw hos hm
   rw[if_pos (e1.trans hnl),hm']
   simp only[hr]
   rw[e2 _ (G2 hm')]
   split at h
   ·rename_i hok
    exact ⟨_,_,by rw[if_pos hok],h⟩
   ·simp at h
  ·rename_i hnl
   split at h
   ·simp at h
   rename_i g1 az ks hm
   obtain ⟨hg0,h'⟩:=Ax h
   obtain ⟨hg1,h''⟩:=Ax h'
   clear h h'
   subst hg0 hg1
   obtain ⟨r,hr,h⟩:=hO _ _ _ _ _ h''
   obtain ⟨e1,e2⟩:=FG hos
   have hm' :=Cw hos hm
   rw[if_neg (by rw[e1];exact hnl),hm']
   simp only[hr]
   split at h
   ·rename_i hok
    exact ⟨_,_,by rw[if_pos hok],h⟩
   ·simp at h
 ·rename_i hall
  rw[if_neg hall]
  split at h
  ·simp at h
  rename_i g1 az ks hm
  split at h
  ·rename_i hks
   obtain ⟨hg0,h'⟩:=Ax h
   obtain ⟨hg1,h''⟩:=Ax h'
   clear h h'
   subst hg0 hg1
   obtain ⟨r,hr,h⟩:=hO _ _ _ _ _ h''
   obtain ⟨e1,e2⟩:=FG hos
   have hm' :=Cw hos hm
   rw[hm']
   simp only
   rw[if_pos hks]
   simp only[hr]
   rw[e2 _ (G2 hm')]
   split at h
   ·rename_i hok
    rw[if_pos hok]
    split at h
    ·simp at h
    ·rename_i g2 us hus
     obtain ⟨hg2,h'''⟩:=Ax h
     clear h
     subst hg2
     split at h'''
     ·rename_i hnd
      simp only[DH hus]
      exact ⟨_,_,by rw[if_pos hnd],h'''⟩
     ·simp at h'''
   ·simp at h
  ·simp at h
theorem EH {β:Type} {x:β}:∀ {tys:List Nat} {rs:List Ro} {k:List T→Option β},Em E tys rs k=some x→∃ ts,leaves E tys rs=some ts∧k ts=some x
 | [],[],k,h=>⟨[],rfl,h⟩
 | [],_::_,k,h=>by simp[Em] at h
 | _::_,[],k,h=>by simp[Em] at h
 | ty::tys,r::rs,k,h=>by
   simp only[Em] at h
   obtain ⟨t,h1,h⟩:=Au h
   obtain ⟨ts,h2,h⟩:=EH h
   exact ⟨t::ts,by simp only[leaves,h1,h2],h⟩
theorem MC {cf:Nat→List Am→Option By} {rs:List Ro} {old:AA} {g:Nat} (h:∀ c,o.op ≠ .call c):Ao E cf o rs old g=Ao E (fun _ _=>none) o rs old g:=by
 unfold Ao
 split <;>first | rfl | (rename_i c _ e;exact absurd e (h c)) | (rename_i c e;exact absurd e (h c))
theorem O9 (hO:O.CfOk cf) {rs:List Ro} {old:AA} {g:Nat} (h:Ta E O o rs old g k=some x):∃ out u,Ao E cf o rs old g=some (out,u)∧k out u=some x:=by
 unfold Ta at h
 split at h
 ·rename_i a1 a2 a3 c y z hop
  obtain ⟨t,h1,h⟩:=Au h
  split at h
  ·rename_i b
   rcases L2 h with ⟨rfl,h⟩ | ⟨rfl,h⟩
   ·obtain ⟨out,h2,h⟩:=Bi h
    exact ⟨out,false,by unfold Ao;simp only[hop,h1,h2],h⟩
   ·obtain ⟨out,h2,h⟩:=Bi h
    exact ⟨out,false,by unfold Ao;simp only[hop,h1,h2],h⟩
  ·simp at h
 ·rename_i t a1 r hop
  obtain ⟨out,h2,h⟩:=M1 h
  exact ⟨out,false,by unfold Ao;simp only[hop,h2],h⟩
 ·rename_i a1 r hop
  obtain ⟨out,h2,h⟩:=Kc h
  exact ⟨out,false,by unfold Ao;simp only[hop,h2],h⟩
 ·rename_i t len parts hop
  obtain ⟨out,h2,h⟩:=HJ h
  exact ⟨out,true,by unfold Ao;simp only[hop,h2],h⟩
 ·rename_i t a1 a2 r y hop
  split at h
  ·simp at h
  ·rename_i hd
   obtain ⟨out,row,h2,h⟩:=MA h
   split at h
   ·rename_i hrow
    exact ⟨_,_,by unfold Ao;simp only[hop,h2];rw[if_neg hd];simp only[hrow,if_true],h⟩
   ·rename_i hrow
    exact ⟨_,_,by unfold Ao;simp only[hop,h2];rw[if_neg hd,if_neg hrow],h⟩
 ·rename_i op xt a1 a2 yt y z hop
  obtain ⟨u,h1,h⟩:=Au h
  obtain ⟨v,h2,h⟩:=Au h
  split at h
  ·rename_i hb
   split at h
   ·simp at h
   ·rename_i gg t ht
    obtain ⟨rfl,h⟩:=Ax h
    refine ⟨_,_,?_,h⟩
    unfold Ao
    simp only[hop,h1,h2,Nz ht,CN]
    rw[if_pos hb]
  ·simp at h
 ·rename_i op xt a1 y hop
  obtain ⟨u,h1,h⟩:=Au h
  split at h
  ·simp at h
  ·rename_i t ht
   exact ⟨_,_,by unfold Ao;simp only[hop,h1,ht,CN],h⟩
 ·rename_i src dst a1 y hop
  obtain ⟨out,h2,h⟩:=KL h
  exact ⟨out,true,by unfold Ao;simp only[hop,h2],h⟩
 ·rename_i t l c y z hop
  split at h
  ·rename_i hs
   obtain ⟨out,h2,h⟩:=IR h
   exact ⟨out,false,by unfold Ao;simp only[hop,h2];rw[if_pos hs],h⟩
  ·simp at h
 ·rename_i t a1 lo hi r rs hop
  split at h
  ·obtain ⟨out,h2,h⟩:=Db h
   exact ⟨out,true,by unfold Ao;simp only[hop,h2],h⟩
  ·obtain ⟨out,h2,h⟩:=Db h
   exact ⟨out,true,by unfold Ao;simp only[hop,h2],h⟩
  ·obtain ⟨out,h2,h⟩:=Db h
   exact ⟨out,true,by unfold Ao;simp only[hop,h2],h⟩
  ·obtain ⟨out,h2,h⟩:=Db h
   exact ⟨out,true,by unfold Ao;simp only[hop,h2],h⟩
  ·simp at h
 ·rename_i s a1 f r hop
  obtain ⟨out,h2,h⟩:=MO h
  exact ⟨out,false,by unfold Ao;simp only[hop,h2],h⟩
 ·rename_i t a1 a2 r i hop
  obtain ⟨out,h2,h⟩:=IW h
  exact ⟨out,true,by unfold Ao;simp only[hop,h2],h⟩
 ·rename_i t a1 a2 r i hop
  obtain ⟨out,h2,h⟩:=MQ h
  exact ⟨out,false,by unfold Ao;simp only[hop,h2],h⟩
 ·rename_i c rs hop
  split at h
  ·rename_i b hc
   split at h
   ·rename_i t r hty
    obtain ⟨out,h2,h⟩:=N7 h
    exact ⟨out,true,by unfold Ao;simp only[hop,hc,hty,h2],h⟩
   ·rename_i t1 t2 s y hty
    obtain ⟨out,h2,h⟩:=Km h
    exact ⟨out,true,by unfold Ao;simp only[hop,hc,hty,h2],h⟩
   ·obtain ⟨ts,h2,h⟩:=EH h
    split at h
    ·rename_i t ts
     split at h
     ·simp at h
     ·rename_i r hr
      exact ⟨_,_,by unfold Ao;simp only[hop,hc,h2,Dw hr,CN],h⟩
    ·simp at h
   ·obtain ⟨ts,h2,h⟩:=EH h
    split at h
    ·rename_i t ts
     split at h
     ·simp at h
     ·rename_i r hr
      exact ⟨_,_,by unfold Ao;simp only[hop,hc,h2,Dw hr,CN],h⟩
    ·simp at h
   ·simp at h
  ·rename_i f hc
   obtain ⟨out,u,h2,h⟩:=Fj hO h
   exact ⟨out,u,by unfold Ao;simp only[hop,hc,h2],h⟩
  ·rename_i X hX hc
   split at h
   ·obtain ⟨out,u,h2,h⟩:=Fj hO h
    refine ⟨out,u,?_,h⟩
    unfold Ao
    cases X with
    | func f=>exact absurd rfl (hX f)
    | _=>simp only[hop,hc,h2]
   ·obtain ⟨out,u,h2,h⟩:=Fj hO h
    refine ⟨out,u,?_,h⟩
    unfold Ao
    cases X with
    | func f=>exact absurd rfl (hX f)
    | _=>simp only[hop,hc,h2]
   ·simp at h
  ·simp at h
 ·unfold fall at h
  split at h
  ·simp at h
  ·rename_i out u hr
   refine ⟨out,u,?_,h⟩
   rw[MC]
   ·exact hr
   ·intro c hc
    simp_all
end
section
variable {β:Type} {E:AX} {O:FV} {cf:Nat→List Am→Option By} {o:Oper} {x:β}
theorem OB (hO:O.CfOk cf) {ops:Array Oper} {f:List Nat} {σ:AS} {k:C6→Option β} (hg:D3 ops σ.env o=some (true,f)) (h:SB E O o f σ k=some x):∃ st,Bk E cf ops o σ=some st∧k st=some x:=by
 unfold SB at h
 obtain ⟨out,u,h1,h⟩:=O9 hO h
 split at h
 ·rename_i hfr
  refine ⟨_,?_,h⟩
  unfold Bk
  simp only[hg,h1]
  rw[if_pos hfr]
  rfl
 ·simp at h
theorem L5 {a:Bool} {p:List Pm} {b:Bool} {dd:CE} {pin:Nat}:∀ {env:List (Nat × AA)} {d:Nat},AE env d = .val a p [.bool b] dd pin→QO env d b=env
 | [],d,h=>by simp[AE] at h
 | (j,s)::r,d,h=>by
   simp only[AE] at h
   simp only[QO]
   split at h
   ·rename_i e
    subst e h
    simp[AA.withBool]
   ·rename_i e
    have:Nat.beq j d=false:=by
     cases hb:Nat.beq j d with
     | true=>exact absurd (by simpa using hb) e
     | false=>rfl
    rw[this]
    simp only[L5 h]
theorem NX {ops:Array Oper} {σ:AS} {k:AS→Option β} (h:Qi ops o σ k=some x):k σ=some x:=by
 unfold Qi at h
 split at h
 ·exact h
 ·split at h
  ·simp at h
  split at h
  ·rename_i b _ _ hget
   rcases L2 h with ⟨rfl,h⟩ | ⟨rfl,h⟩
   ·rw[L5 hget] at h;exact h
   ·rw[L5 hget] at h;exact h
  ·exact h
theorem Ms (hO:O.CfOk cf) {ops:Array Oper} {σ:AS} {k:C6→Option β} (h:Pv E O ops o σ k=some x):∃ st,Bk E cf ops o σ=some st∧k st=some x:=by
 unfold Pv at h
 split at h
 ·simp at h
 ·rename_i f hg
  exact OB hO hg h
 ·rename_i f hg
  refine ⟨_,?_,h⟩
  unfold Bk
  simp only[hg]
theorem Ga (hO:O.CfOk cf) {ops:Array Oper}:∀ {l:List Oper} {σ:AS} {fs:List (List Nat × List Nat)} {k:AS→List (List Nat × List Nat)→Option β},Hv E O ops l σ fs k=some x →
  ∃ σ' fs',Fg E cf ops l σ=some (σ',fs')∧k σ' (fs.reverse++fs')=some x
 | [],σ,fs,k,h=>⟨σ,[],rfl,by simpa [Hv] using h⟩
 | o::l,σ,fs,k,h=>by
   simp only[Hv] at h
   obtain ⟨st,h1,h⟩:=Ms hO (NX h)
   obtain ⟨σ',fs',h2,h⟩:=Ga hO h
   refine ⟨σ',(st.foot,st.writes)::fs',by simp only[Fg,h1,h2],?_⟩
   simpa using h
def Fu (O:FV) (E:AX) (cf:Nat→List Am→Option By) (n:Nat) (keep:List (Nat × List Nat)):Code→Prop
 | .loop body=>∀ (β:Type) (σ:AS) (k:Ex→AS→Option β) (x:β),O.lp (Re body) (settle (A4 keep (BC body)) σ) k=some x →
    ∃ ex σ',AU E cf n keep (.loop body) σ=some (ex,σ')∧k ex σ'=some x
 | .seq a b=>Fu O E cf n keep a∧Fu O E cf n keep b
 | .cond _ a b=>Fu O E cf n keep a∧Fu O E cf n keep b
 | .block _ a=>Fu O E cf n keep a
 | _=>True
theorem Ir (hO:O.CfOk cf) {n:Nat} {keep:List (Nat × List Nat)}:∀ {c:Code} {σ:AS} {k:Ex→AS→Option β},Fu O E cf n keep c→Dg E O keep c σ k=some x →
  ∃ ex σ',AU E cf n keep c σ=some (ex,σ')∧k ex σ'=some x:=by
 intro c
 induction c with
 | skip=>intro σ k _ h;exact ⟨_,_,rfl,h⟩
 | region id ops draw =>
   intro σ k _ h
   simp only[Dg,rg] at h
   obtain ⟨σ',fs',h1,h⟩:=Ga hO h
   split at h
   ·rename_i hr
    refine ⟨_,_,?_,h⟩
    simp only[AU,IN,h1]
    rw[if_pos (by simpa using hr)]
   ·simp at h
 | seq a b iha ihb =>
   intro σ k hl h
   simp only[Dg] at h
   obtain ⟨ex,σ',h1,h⟩:=iha hl.1 h
   cases ex with
   | normal =>
     obtain ⟨ex2,σ2,h2,h⟩:=ihb hl.2 h
     exact ⟨ex2,σ2,by simp only[AU,h1,h2],h⟩
   | exit id=>exact ⟨_,_,by simp only[AU,h1],h⟩
   | ret=>exact ⟨_,_,by simp only[AU,h1],h⟩
 | cond c a b iha ihb =>
   intro σ k hl h
   simp only[Dg] at h
   obtain ⟨t,h1,h⟩:=Au h
   split at h
   ·rename_i v
    rcases L2 h with ⟨rfl,h⟩ | ⟨rfl,h⟩
    ·obtain ⟨ex,σ',h2,h⟩:=iha hl.1 h
     exact ⟨ex,σ',by simp only[AU,h1,h2],h⟩
    ·obtain ⟨ex,σ',h2,h⟩:=ihb hl.2 h
     exact ⟨ex,σ',by simp only[AU,h1,h2],h⟩
   ·simp at h
 | block id a iha =>
   intro σ k hl h
   simp only[Dg] at h
   obtain ⟨ex,σ',h1,h⟩:=iha hl h
   cases ex with
   | normal=>exact ⟨_,_,by simp only[AU,h1],h⟩
   | exit id' =>
     simp only at h
     split at h
     ·rename_i e
      exact ⟨_,_,by simp only[AU,h1];rw[if_pos e],h⟩
     ·rename_i e
      exact ⟨_,_,by simp only[AU,h1];rw[if_neg e],h⟩
   | ret=>exact ⟨_,_,by simp only[AU,h1],h⟩
 | loop a _ =>
   intro σ k hl h
   exact hl _ _ _ _ h
 | exit id=>intro σ k _ h;exact ⟨_,_,rfl,h⟩
 | ret=>intro σ k _ h;exact ⟨_,_,rfl,h⟩
 | _=>intro σ k _ h;simp[Dg] at h
theorem PO {V X:Type} {n:Nat} {keep:List (Nat × List Nat)} {body:Code} (enc:V→AS) (de:AS→Option V) (hde:∀ σ v,de σ=some v→σ=enc v) (L:Nat→V→Option X) (dec:Ex→AS→Option X)
  (hO:O.CfOk cf) (hl:Fu O E cf n keep body) (h0:∀ v,L 0 v=none)
  (hs:∀ m v,L (m+1) v=Dg E O keep body (enc v) (fun ex σ'=>match ex with
    | .normal=>bd (de (settle (A4 keep (BC body)) σ')) (L m)
    | .exit id=>dec (.exit id) (settle (A4 keep (Hw body)) σ')
    | .ret=>dec .ret (settle (A4 keep (Hw body)) σ'))) :
  ∀ m v x,L m v=some x→∃ ex σ',F1 (A4 keep (Hw body)) (Hh m (settle (A4 keep (BC body))) (AU E cf n keep body) (enc v))=some (ex,σ')∧dec ex σ'=some x:=by
 intro m
 induction m with
 | zero=>intro v x h;rw[h0] at h;simp at h
 | succ m ih =>
   intro v x h
   rw[hs] at h
   obtain ⟨ex,σ',h1,h⟩:=Ir hO hl h
   cases ex with
   | normal =>
     obtain ⟨v',hv,h⟩:=Bv h
     obtain ⟨ex2,σ2,h2,h3⟩:=ih v' x h
     refine ⟨ex2,σ2,?_,h3⟩
     simp only[Hh,h1,hde _ _ hv,h2]
   | exit id=>exact ⟨_,_,by simp only[Hh,h1,F1],h⟩
   | ret=>exact ⟨_,_,by simp only[Hh,h1,F1],h⟩
theorem Pi {n f:Nat} {az:List Am} {c:Code} {modes:List BX} {outs:List Nat} {results:List (Nat × Option (Bool × Nat))} {keep:List (Nat × List Nat)} {k:By→Option β} (hf:E.fn f=some (.code c modes outs results keep))
  (hO:O.CfOk (AM E n)) (hl:Fu O E (AM E n) n keep c) (h:TG E O f az k=some x):∃ r,AM E (n+1) f az=some r∧k r=some x:=by
 unfold TG at h
 simp only[hf] at h
 split at h
 ·rename_i hs
  obtain ⟨ex,σ',h1,h⟩:=Ir hO hl h
  split at h
  ·simp at h
  ·rename_i r hr
   refine ⟨r,?_,h⟩
   simp only[AM,hf,h1]
   rw[if_pos hs];exact hr
 ·simp at h
end
structure Ds (V:Type) where
 pk:V→List Ar
 up:List Ar→Option V
 ok:∀ ls v,up ls=some v→ls=pk v:=by intro _ _ h;split at h <;>cases h;rfl
def SV:Ex→Ex→Bool
 | .normal,.normal=>true
 | .exit a,.exit b=>Nat.beq a b
 | .ret,.ret=>true
 | _,_=>false
theorem RD {a b:Ex} (h:SV a b=true):a=b:=by
 cases a <;>cases b <;>simp[SV] at h <;>first | rfl | rw[h]
def sm {A B γ:Type} (x:A ⊕ B) (f:A→γ) (g:B→γ):γ:=match x with
 | .inl a=>f a
 | .inr b=>g b
structure K0 (X:Type) where
 dec:Ex→AS→Option X
 out : {β:Type}→X→(Ex→AS→Option β)→Option β
 ok:∀ ex σ x,dec ex σ=some x→∀ (β:Type) (k:Ex→AS→Option β),out x k=k ex σ
def K0.one {A:Type} (e:Ex) (P:AS) (S:Ds A):K0 A where
 dec:=fun ex σ=>match SV e ex with
  | true=>bd (Kf P σ) S.up
  | false=>none
 out:=fun x k=>k e (PS P (S.pk x))
 ok:=by
  intro ex σ x h β k
  split at h
  ·rename_i he
   obtain ⟨ls,h1,h2⟩:=Bv h
   rw[RD he,← S.ok _ _ h2,Le h1]
  ·simp at h
def K0.or {A B:Type} (a:K0 A) (b:K0 B):K0 (A ⊕ B) where
 dec:=fun ex σ=>match a.dec ex σ with
  | some x=>some (.inl x)
  | none=>match b.dec ex σ with
    | some y=>some (.inr y)
    | none=>none
 out:=fun x k=>sm x (fun x=>a.out x k) (fun y=>b.out y k)
 ok:=by
  intro ex σ x h β k
  split at h
  ·rename_i y hy
   simp only[zS] at h
   subst h
   exact a.ok _ _ _ hy _ _
  ·split at h
   ·rename_i y hy
    simp only[zS] at h
    subst h
    exact b.ok _ _ _ hy _ _
   ·simp at h
structure DC (X:Type) where
 dec:By→Option X
 out : {β:Type}→X→(By→Option β)→Option β
 enc:X→By
 ok:∀ r x,dec r=some x→enc x=r
 ok':∀ x (β:Type) (k:By→Option β),out x k=k (enc x)
def DC.one {A:Type} (P:By) (S:Ds A):DC A where
 dec:=fun r=>bd (Tm P r) S.up
 out:=fun x k=>k (TC P (S.pk x))
 enc:=fun x=>TC P (S.pk x)
 ok:=by
  intro r x h
  obtain ⟨ls,h1,h2⟩:=Bv h
  rw[← S.ok _ _ h2,R6 h1]
 ok' :=fun _ _ _=>rfl
def DC.or {A B:Type} (a:DC A) (b:DC B):DC (A ⊕ B) where
 dec:=fun r=>match a.dec r with
  | some x=>some (.inl x)
  | none=>match b.dec r with
    | some y=>some (.inr y)
    | none=>none
 out:=fun x k=>sm x (fun x=>a.out x k) (fun y=>b.out y k)
 enc:=fun x=>sm x a.enc b.enc
 ok:=by
  intro r x h
  split at h
  ·rename_i y hy
   simp only[zS] at h
   subst h
   exact a.ok _ _ hy
  ·split at h
   ·rename_i y hy
    simp only[zS] at h
    subst h
    exact b.ok _ _ hy
   ·simp at h
 ok' :=by
  intro x β k
  cases x with
  | inl x=>exact a.ok' x β k
  | inr x=>exact b.ok' x β k
structure D1 (E:AX) where
 no:Nat
 fits:List Am→Bool
 W : {β:Type}→Nat→List Am→(By→Option β)→Option β
 ok:∀ n (β:Type) az (k:By→Option β) x,W n az k=some x→∃ r,AM E n no az=some r∧k r=some x
def Q4 {E:AX} {β:Type}:List (D1 E)→Nat→Nat→List Am→(By→Option β)→Option β
 | [],_,_,_,_=>none
 | w::ws,n,f,az,k=>match Nat.beq w.no f&&w.fits az with
   | true=>w.W n az k
   | false=>Q4 ws n f az k
structure Nl where
 no:Nat
 W : {β:Type}→AS→(Ex→AS→Option β)→Option β
def S4 {β:Type}:List Nl→Nat→AS→(Ex→AS→Option β)→Option β
 | [],_,_,_=>none
 | w::ws,i,σ,k=>match Nat.beq w.no i with
   | true=>w.W σ k
   | false=>S4 ws i σ k
def DK {E:AX} (fs:List (D1 E)) (ls:List Nl) (n:Nat):FV:=⟨fun f az k=>Q4 fs n f az k,fun i σ k=>S4 ls i σ k⟩
theorem HS {E:AX} (fs:List (D1 E)) (ls:List Nl) (n:Nat):(DK fs ls n).CfOk (AM E n):=by
 intro β f az k x h
 simp only[DK] at h
 induction fs with
 | nil=>simp[Q4] at h
 | cons w ws ih =>
   simp only[Q4] at h
   split at h
   ·rename_i e
    simp only[zB,Nat.beq_eq] at e
    obtain ⟨rfl,-⟩:=e
    exact w.ok n β az k x h
   ·exact ih h
def Nl.of {V X:Type} (no:Nat) (P:AS) (S:Ds V) (A:K0 X) (F:V→Option X):Nl:=⟨no,fun σ k=>bd (Kf P σ) fun ls=>bd (S.up ls) fun v=>bd (F v) fun x=>A.out x k⟩
theorem Ou {E:AX} {O:FV} {cf:Nat→List Am→Option By} {V X:Type} {n:Nat} {keep:List (Nat × List Nat)} {body:Code} (P:AS) (S:Ds V) (A:K0 X) (L:Nat→V→Option X)
  (hO:O.CfOk cf) (hl:Fu O E cf n keep body) (h0:∀ v,L 0 v=none)
  (hs:∀ m v,L (m+1) v=Dg E O keep body (PS P (S.pk v)) (fun ex σ'=>match ex with
    | .normal=>bd (Kf P (settle (A4 keep (BC body)) σ')) fun ls=>bd (S.up ls) (L m)
    | .exit id=>A.dec (.exit id) (settle (A4 keep (Hw body)) σ')
    | .ret=>A.dec .ret (settle (A4 keep (Hw body)) σ')))
  (hW:∀ (β:Type) (σ:AS) (k:Ex→AS→Option β),O.lp (Re body) σ k=bd (Kf P σ) fun ls=>bd (S.up ls) fun v=>bd (L n v) fun x=>A.out x k):Fu O E cf n keep (.loop body):=by
 have hL:=PO (cf:=cf) (n:=n) (fun v=>PS P (S.pk v)) (fun σ=>bd (Kf P σ) S.up) (fun σ v h=>by
  obtain ⟨ls,h1,h2⟩:=Bv h
  rw[← S.ok _ _ h2,Le h1]) L A.dec hO hl h0 (fun m v=>by
   rw[hs]
   congr 1
   funext ex σ'
   cases ex with
   | normal =>
     simp only
     cases Kf P (settle (A4 keep (BC body)) σ') <;>rfl
   | _=>rfl)
 intro β σ k x h
 rw[hW] at h
 obtain ⟨ls,h1,h⟩:=Bv h
 obtain ⟨v,h2,h⟩:=Bv h
 obtain ⟨y,h3,h⟩:=Bv h
 obtain ⟨ex,σ',h4,h5⟩:=hL n v y h3
 rw[A.ok _ _ _ h5] at h
 refine ⟨ex,σ',?_,h⟩
 simp only[AU]
 rw[← Le h1,S.ok _ _ h2,h4]
theorem Qf {O:FV} {E:AX} {cf:Nat→List Am→Option By} {n:Nat} {keep:List (Nat × List Nat)}:∀ {c:Code},(∀ b∈BA c,Fu O E cf n keep (.loop b))→Fu O E cf n keep c:=by
 intro c
 induction c with
 | loop b _=>intro h;exact h b (by simp[BA])
 | seq a b iha ihb=>intro h;exact ⟨iha fun x hx=>h x (by simp[BA,hx]),ihb fun x hx=>h x (by simp[BA,hx])⟩
 | cond _ a b iha ihb=>intro h;exact ⟨iha fun x hx=>h x (by simp[BA,hx]),ihb fun x hx=>h x (by simp[BA,hx])⟩
 | block _ a iha=>intro h;exact iha h
 | _=>intro h;trivial
inductive K6 (O:FV) (E:AX) (cf:Nat→List Am→Option By) (n:Nat) (keep:List (Nat × List Nat)):List Code→Prop
 | nil:K6 O E cf n keep []
 | cons {b bs} (h:Fu O E cf n keep (.loop b)) (t:K6 O E cf n keep bs):K6 O E cf n keep (b::bs)
theorem I5 {O:FV} {E:AX} {cf:Nat→List Am→Option By} {n:Nat} {keep:List (Nat × List Nat)} {c:Code} {bs:List Code} (h:BA c=bs) (ha:K6 O E cf n keep bs):Fu O E cf n keep c:=by
 refine Qf ?_
 rw[h]
 clear h
 induction ha with
 | nil=>simp
 | cons h _ ih =>
   intro b hb
   rw[mem_cons] at hb
   rcases hb with rfl | hb
   ·exact h
   ·exact ih b hb
def FW {E:AX} {V X:Type} (no:Nat) (P:List Am) (S:Ds V) (A:DC X) (F:Nat→V→Option X) (h:∀ n v x,F n v=some x→AM E n no (Cr P (S.pk v))=some (A.enc x)):D1 E where
 no:=no
 fits:=fun az=>(Eo P az []).isSome
 W:=fun n az k=>bd (Eo P az []) fun ls=>bd (S.up ls) fun v=>bd (F n v) fun x=>A.out x k
 ok:=by
  intro n β az k x hh
  obtain ⟨ls,h1,hh⟩:=Bv hh
  obtain ⟨v,h2,hh⟩:=Bv hh
  obtain ⟨y,h3,hh⟩:=Bv hh
  have:=h n v y h3
  rw[← S.ok _ _ h2,Q2 h1] at this
  refine ⟨_,this,?_⟩
  rw[A.ok'] at hh;exact hh
theorem Of {E:AX} {V X:Type} {no:Nat} {P:List Am} {S:Ds V} {A:DC X} {F:Nat→V→Option X} {c:Code} {modes:List BX} {outs:List Nat} {results:List (Nat × Option (Bool × Nat))} {keep:List (Nat × List Nat)} (O:Nat→FV)
  (hf:E.fn no=some (.code c modes outs results keep)) (hO:∀ n,(O n).CfOk (AM E n)) (hl:∀ n,Fu (O n) E (AM E n) n keep c)
  (h0:∀ v,F 0 v=none) (hs:∀ n v,F (n+1) v=TG E (O n) no (Cr P (S.pk v)) A.dec) :
  ∀ n v x,F n v=some x→AM E n no (Cr P (S.pk v))=some (A.enc x):=by
 intro n v x h
 cases n with
 | zero=>rw[h0] at h;simp at h
 | succ n =>
   rw[hs] at h
   obtain ⟨r,h1,h2⟩:=Pi hf (hO n) (hl n) h
   rw[h1,A.ok _ _ h2]
structure T7 (E:AX) (n:Nat) where
 no:Nat
 fits:List Am→Bool
 W : {β:Type}→List Am→(By→Option β)→Option β
 ok:∀ (β:Type) az (k:By→Option β) x,W az k=some x→∃ r,AM E n no az=some r∧k r=some x
def D1.at {E:AX} (w:D1 E) (n:Nat):T7 E n:=⟨w.no,w.fits,fun az k=>w.W n az k,fun β az k x h=>w.ok n β az k x h⟩
def Ko (t:T):Option (List (Bool × List Pm × List T)):=some [(false,[.leaf],[t])]
def Ew:List T→Option (List (Bool × List Pm × List T))
 | [.int .u32 n]=>if 0≤n then Ko (.flt .f32 (Af .f32 n.toNat)) else none
 | _=>none
def Et:List T→Option (List (Bool × List Pm × List T))
 | [.int .u64 n]=>if 0≤n then Ko (.flt .f64 (Af .f64 n.toNat)) else none
 | [.opq]=>Ko (.flt .f64 (E5 .f64))
 | _=>none
def KK:List T→Option (List (Bool × List Pm × List T))
 | [.flt .f32 x]=>if isNaN .f32 x then none else Ko (.int .u32 x)
 | _=>none
def Jn:List T→Option (List (Bool × List Pm × List T))
 | [.flt .f64 x]=>if isNaN .f64 x then Ko .opq else Ko (.int .u64 x)
 | _=>none
def Sv (x:Nat):Nat:=if isNaN .f64 x then E5 .f64 else x % 9223372036854775808
def R3:List T→Option (List (Bool × List Pm × List T))
 | [.flt .f64 x]=>if x<18446744073709551616 then Ko (.flt .f64 (Sv x)) else none
 | _=>none
def IY:List T→Option (List (Bool × List Pm × List T))
 | [.flt .f64 x,.flt .f64 s]=>if isNaN .f64 s then none else if isNaN .f64 x then none else
     if x<18446744073709551616∧s<18446744073709551616 then Ko (.flt .f64 (x % 9223372036854775808+s / 9223372036854775808 * 9223372036854775808)) else none
 | _=>none
def CT (way:Ieee.Toward) (x:Nat):Nat:=match FloatKind.f64.decode x with
 | .nan _ _=>E5 .f64
 | d=>FloatKind.f64.encode (d.integral way)
def GF (way:Ieee.Toward):List T→Option (List (Bool × List Pm × List T))
 | [.flt .f64 x]=>Ko (.flt .f64 (CT way x))
 | _=>none
def S9:List T→Option (List (Bool × List Pm × List T))
 | [.flt .f64 x]=>Ko (PL .f64 (FloatKind.f64.format.sqrt x))
 | _=>none
def SE (W:Nat):List Am→Option By
 | [⟨.io,⟨false,[.sl .own el],[.lst n cs]⟩⟩,⟨.val,⟨false,[.leaf],[.int .i64 i]⟩⟩,⟨.val,⟨false,[.leaf],[.int .i64 j]⟩⟩] =>
   if el.length=W∧0<W∧Al 0 el=true∧0≤i∧i≤j∧j≤(n:Int) then
    some ⟨[⟨false,[.sl .own el],[.lst (n - (j.toNat - i.toNat)) (cs.take (i.toNat * W)++cs.drop (j.toNat * W))]⟩],[some ⟨false,[.dead],[.lst n cs]⟩,none,none]⟩
   else none
 | _=>none
def SH:List Am→Option By
 | [⟨.io,⟨false,[.sl .own [.leaf]],[.lst n cs]⟩⟩]=>if n<4611686018427387904 then some ⟨[],[some ⟨false,[.sl .own [.leaf]],[.lst n cs.reverse]⟩]⟩ else none
 | _=>none
def Ja (W:Nat) (p:List T→Option Bool):Nat→List T→Option (Nat × List T)
 | 0,_=>some (0,[])
 | n+1,cs=>match p (cs.take W) with
   | none=>none
   | some b=>match Ja W p n (cs.drop W) with
     | none=>none
     | some (m,ds)=>some (match b with
       | true=>(m,ds)
       | false=>(m+1,cs.take W++ds))
def K5 (fc:Nat) (el ps:List Pm) (pr:List T→List T→Option Bool):List Am→Option By
 | [⟨.io,⟨false,[.sl .own el'],[.lst n cs]⟩⟩,⟨.val,⟨false,[.fn qs],[.fn f ts]⟩⟩] =>
   if pbeqs el' el=true∧0<el.length∧Al 0 el=true∧f=fc∧pbeqs qs ps=true∧n<4611686018427387904 then match Ja el.length (pr ts) n cs with
    | none=>none
    | some (m,ds)=>some ⟨[⟨false,[.sl .own el],[.lst m ds]⟩],[some ⟨false,[.dead],[.lst n cs]⟩,none]⟩
   else none
 | _=>none
def Lu:List T→List T→Option Bool
 | [.ref [.int .i64 k]],.int .i64 a::_=>some (a==k)
 | _,_=>none
def N1:List T→List T→Option Bool
 | [],[.int .i64 k,_,.lst _ xs]=>match k==0 with
   | false=>some false
   | true=>match xs with
     | .flt .f32 x::_=>some (FloatKind.f32.format.order x 1065353216==some .eq)
     | _=>none
 | _,_=>none
def SW (el:List Pm):List Am→Option By
 | [⟨.io,⟨false,[.sl .own a],[.lst n cs]⟩⟩,⟨.val,⟨false,[.leaf],[.int .i64 i]⟩⟩,⟨.io,⟨false,[.sl .own b],[.lst m ds]⟩⟩] =>
   if pbeqs a el=true∧pbeqs b el=true∧0<el.length∧Al 0 el=true∧m=1∧0≤i∧i≤(n:Int)∧0<n∧n<1000000 then
    some ⟨[⟨false,[.sl .own el],[.lst (n+1) (cs.take (i.toNat * el.length)++ds++cs.drop (i.toNat * el.length))]⟩],[some ⟨false,[.dead],[.lst n cs]⟩,none,some ⟨false,[.dead],[.lst m ds]⟩]⟩
   else none
 | _=>none
def Qb (ts:List T):List (Bool × List Pm × List T):=ts.map fun t=>(false,[.leaf],[t])
def CM (h:List T→Option (List T)) (ts:List T):Option (List (Bool × List Pm × List T)):=(h ts).map Qb
def NE:List T→Option (List T)
 | [.str s,.str p]=>if s.length<4294967281 then some [.str (Lib.cut s p).1,.str (Lib.cut s p).2.1,.bool (Lib.cut s p).2.2] else none
 | _=>none
def D5:List T→Option (List T)
 | [.int .i64 n,.int .i64 b]=>if b=10 ∧ -9223372036854775808≤n∧n≤9223372036854775807 then some [.str (Lib.itoa n)] else none
 | _=>none
def IU:List T→Option (List T)
 | [.str s,.str p]=>if p.length=1 then some [.bool (decide (0≤Lib.indexByte s (p.getD 0 0)))] else none
 | _=>none
def AZ (m:UInt8):List UInt8→List (List UInt8)
 | []=>[[]]
 | c::r=>match c==m with
   | true=>[]::AZ m r
   | false=>match AZ m r with
     | p::ps=>(c::p)::ps
     | []=>[[c]]
def Ev:List Am→Option By
 | [⟨.val,⟨false,[.leaf],[.str s]⟩⟩]=>if s.length<1000000 then
     some ⟨[⟨false,[.sl .own [.leaf]],[.lst ((AZ 10 s).length - 1) ((AZ 10 s).dropLast.map .str)]⟩,⟨false,[.leaf],[.str ((AZ 10 s).getLastD [])]⟩],[none]⟩ else none
 | _=>none
def HA:List T→Option (List T)
 | [.str s,.int .u8 c]=>if 0≤c∧c<256 then some [.int .i64 (Lib.indexByte s c.toNat.toUInt8)] else none
 | _=>none
def OR:List T→Option (List (Bool × List Pm × List T))
 | [.str s,.str p]=>if s.length<4294967281∧1≤p.length then some [(false,[.sl .own [.leaf]],[.lst (Lib.split s p).length ((Lib.split s p).map .str)])] else none
 | _=>none
def Nv:List T→Option (List (List UInt8))
 | []=>some []
 | .str s::ts=>match Nv ts with
   | none=>none
   | some l=>some (s::l)
 | _=>none
def Qa:List Am→Option By
 | [⟨.val,⟨false,[.sl .shr [.leaf]],[.lst n cs]⟩⟩,⟨.val,⟨false,[.leaf],[.str p]⟩⟩]=>match Nv cs with
   | none=>none
   | some l=>if n=l.length∧n≤1000000000∧(Lib.join l p).length≤140737488355328 then some ⟨[⟨false,[.leaf],[.str (Lib.join l p)]⟩],[none,none]⟩ else none
 | _=>none
def Ek:Ds Nat where
 pk:=fun v=>[.flt v]
 up:=fun ls=>match ls with
  | [.flt a]=>some a
  | _=>none
 ok:=by
  intro ls v h
  split at h
  ·cases h;rfl
  ·cases h
def OE:Ds Int where
 pk:=fun v=>[.int v]
 up:=fun ls=>match ls with
  | [.int a]=>some a
  | _=>none
 ok:=by
  intro ls v h
  split at h
  ·cases h;rfl
  ·cases h
def Rg:Ds (Nat × Nat) where
 pk:=fun v=>[.flt v.1,.flt v.2]
 up:=fun ls=>match ls with
  | [.flt a,.flt b]=>some (a,b)
  | _=>none
 ok:=by
  intro ls v h
  split at h
  ·cases h;rfl
  ·cases h
def Gx (k:FloatKind):Am:=⟨.val,⟨false,[.leaf],[.flt k 0]⟩⟩
def GO (k:IntKind):Am:=⟨.val,⟨false,[.leaf],[.int k 0]⟩⟩
def MW (k:FloatKind) (n:Nat):By:=⟨[⟨false,[.leaf],[.flt k 0]⟩],List.replicate n none⟩
def Se (k:IntKind):By:=⟨[⟨false,[.leaf],[.int k 0]⟩],[none]⟩
def HP (n:Nat) (x:Nat):Option Int:=match n with
 | 0=>none
 | _+1=>if isNaN .f32 x then none else some (x:Int)
def Hc (n:Nat) (x:Nat):Option Int:=match n with
 | 0=>none
 | _+1=>if isNaN .f64 x then none else some (x:Int)
def DQ (n:Nat) (i:Int):Option Nat:=match n with
 | 0=>none
 | _+1=>if 0≤i then some (Af .f32 i.toNat) else none
def DZ (n:Nat) (i:Int):Option Nat:=match n with
 | 0=>none
 | _+1=>if 0≤i then some (Af .f64 i.toNat) else none
def RU (n:Nat) (x:Nat):Option Nat:=match n with
 | 0=>none
 | _+1=>if x<18446744073709551616 then some (Sv x) else none
def F6 (n:Nat) (x s:Nat):Option Nat:=match n with
 | 0=>none
 | _+1=>if isNaN .f64 s then none else if isNaN .f64 x then none else
    if x<18446744073709551616∧s<18446744073709551616 then some (x % 9223372036854775808+s / 9223372036854775808 * 9223372036854775808) else none
def CZ (n:Nat) (x:Nat):Option Nat:=match n with
 | 0=>none
 | _+1=>some (CT .down x)
def Cl (n:Nat) (x:Nat):Option Nat:=match n with
 | 0=>none
 | _+1=>some (CT .zero x)
def Cc (n:Nat) (x:Nat):Option Nat:=match n with
 | 0=>none
 | _+1=>some (CT .even x)
def Sn (x:Nat):Nat:=match FloatKind.f64.format.sqrt x with
 | some b=>b
 | none=>E5 .f64
def Ow (n:Nat) (x:Nat):Option Nat:=match n with
 | 0=>none
 | _+1=>some (Sn x)
section
variable {E:AX} (no:Nat)
noncomputable def HP.w (h:E.fn no=some (.ext KK)):D1 E:=FW no [Gx .f32] Ek (.one (Se .u32) OE) HP (by
 intro n x r hh
 cases n with
 | zero=>simp[HP] at hh
 | succ n =>
   simp only[HP] at hh
   split at hh
   ·simp at hh
   ·rename_i hn
    simp only[zS] at hh
    subst hh
    have:AM E (n+1) no (Cr [Gx .f32] (Ek.pk x))=(match KK [.flt .f32 x] with
     | none=>none
     | some rs=>some ⟨rs.map fun x=>⟨x.1,x.2.1,x.2.2⟩,[none]⟩):=by simp only[AM,h];rfl
    rw[this]
    simp only[KK,hn,if_false]
    rfl)
noncomputable def Hc.w (h:E.fn no=some (.ext Jn)):D1 E:=FW no [Gx .f64] Ek (.one (Se .u64) OE) Hc (by
 intro n x r hh
 cases n with
 | zero=>simp[Hc] at hh
 | succ n =>
   simp only[Hc] at hh
   split at hh
   ·simp at hh
   ·rename_i hn
    simp only[zS] at hh
    subst hh
    have:AM E (n+1) no (Cr [Gx .f64] (Ek.pk x))=(match Jn [.flt .f64 x] with
     | none=>none
     | some rs=>some ⟨rs.map fun x=>⟨x.1,x.2.1,x.2.2⟩,[none]⟩):=by simp only[AM,h];rfl
    rw[this]
    simp only[Jn,hn,if_false]
    rfl)
noncomputable def DQ.w (h:E.fn no=some (.ext Ew)):D1 E:=FW no [GO .u32] OE (.one (MW .f32 1) Ek) DQ (by
 intro n x r hh
 cases n with
 | zero=>simp[DQ] at hh
 | succ n =>
   simp only[DQ] at hh
   split at hh
   ·rename_i hn
    simp only[zS] at hh
    subst hh
    have:AM E (n+1) no (Cr [GO .u32] (OE.pk x))=(match Ew [.int .u32 x] with
     | none=>none
     | some rs=>some ⟨rs.map fun x=>⟨x.1,x.2.1,x.2.2⟩,[none]⟩):=by simp only[AM,h];rfl
    rw[this]
    simp only[Ew,hn,if_true]
    rfl
   ·simp at hh)
noncomputable def DZ.w (h:E.fn no=some (.ext Et)):D1 E:=FW no [GO .u64] OE (.one (MW .f64 1) Ek) DZ (by
 intro n x r hh
 cases n with
 | zero=>simp[DZ] at hh
 | succ n =>
   simp only[DZ] at hh
   split at hh
   ·rename_i hn
    simp only[zS] at hh
    subst hh
    have:AM E (n+1) no (Cr [GO .u64] (OE.pk x))=(match Et [.int .u64 x] with
     | none=>none
     | some rs=>some ⟨rs.map fun x=>⟨x.1,x.2.1,x.2.2⟩,[none]⟩):=by simp only[AM,h];rfl
    rw[this]
    simp only[Et,hn,if_true]
    rfl
   ·simp at hh)
noncomputable def RU.w (h:E.fn no=some (.ext R3)):D1 E:=FW no [Gx .f64] Ek (.one (MW .f64 1) Ek) RU (by
 intro n x r hh
 cases n with
 | zero=>simp[RU] at hh
 | succ n =>
   simp only[RU] at hh
   split at hh
   ·rename_i hn
    simp only[zS] at hh
    subst hh
    have:AM E (n+1) no (Cr [Gx .f64] (Ek.pk x))=(match R3 [.flt .f64 x] with
     | none=>none
     | some rs=>some ⟨rs.map fun x=>⟨x.1,x.2.1,x.2.2⟩,[none]⟩):=by simp only[AM,h];rfl
    rw[this]
    simp only[R3,hn,if_true]
    rfl
   ·simp at hh)
noncomputable def F6.w (h:E.fn no=some (.ext IY)):D1 E:=FW no [Gx .f64,Gx .f64] Rg (.one (MW .f64 2) Ek) (fun n v=>F6 n v.1 v.2) (by
 intro n x r hh
 cases n with
 | zero=>simp[F6] at hh
 | succ n =>
   simp only[F6] at hh
   have:AM E (n+1) no (Cr [Gx .f64,Gx .f64] (Rg.pk x))=(match IY [.flt .f64 x.1,.flt .f64 x.2] with
     | none=>none
     | some rs=>some ⟨rs.map fun x=>⟨x.1,x.2.1,x.2.2⟩,[none,none]⟩):=by simp only[AM,h];rfl
   rw[this]
   simp only[IY]
   split at hh
   ·simp at hh
   ·rename_i hn
    split at hh
    ·simp at hh
    ·rename_i hx
     split at hh
     ·rename_i hb
      simp only[zS] at hh
      subst hh
      simp only[hn,hx,hb,if_false,if_true]
      rfl
     ·simp at hh)
theorem FZ {way:Ieee.Toward} (h:E.fn no=some (.ext (GF way))) (n:Nat) (x:Nat):AM E (n+1) no (Cr [Gx .f64] (Ek.pk x))=some ((DC.one (MW .f64 1) Ek).enc (CT way x)):=by
 simp only[AM,h];rfl
noncomputable def CZ.w (h:E.fn no=some (.ext (GF .down))):D1 E:=FW no [Gx .f64] Ek (.one (MW .f64 1) Ek) CZ (by
 intro n x r hh
 cases n with
 | zero=>simp[CZ] at hh
 | succ n =>
   simp only[CZ,zS] at hh
   rw[← hh];exact FZ no h n x)
noncomputable def Cl.w (h:E.fn no=some (.ext (GF .zero))):D1 E:=FW no [Gx .f64] Ek (.one (MW .f64 1) Ek) Cl (by
 intro n x r hh
 cases n with
 | zero=>simp[Cl] at hh
 | succ n =>
   simp only[Cl,zS] at hh
   rw[← hh];exact FZ no h n x)
noncomputable def Cc.w (h:E.fn no=some (.ext (GF .even))):D1 E:=FW no [Gx .f64] Ek (.one (MW .f64 1) Ek) Cc (by
 intro n x r hh
 cases n with
 | zero=>simp[Cc] at hh
 | succ n =>
   simp only[Cc,zS] at hh
   rw[← hh];exact FZ no h n x)
noncomputable def Ow.w (h:E.fn no=some (.ext S9)):D1 E:=FW no [Gx .f64] Ek (.one (MW .f64 1) Ek) Ow (by
 intro n x r hh
 cases n with
 | zero=>simp[Ow] at hh
 | succ n =>
   simp only[Ow,zS] at hh
   rw[← hh]
   simp only[AM,h]
   rfl)
end
def P9:Ds (Nat × List T × Int × Int) where
 pk:=fun v=>[.lst v.1 v.2.1,.int v.2.2.1,.int v.2.2.2]
 up:=fun ls=>match ls with
  | [.lst a b,.int c,.int d]=>some (a,b,c,d)
  | _=>none
 ok:=by
  intro ls v h
  split at h
  ·cases h;rfl
  ·cases h
def QA:Ds (Nat × List T × Nat × List T) where
 pk:=fun v=>[.lst v.1 v.2.1,.lst v.2.2.1 v.2.2.2]
 up:=fun ls=>match ls with
  | [.lst a b,.lst c d]=>some (a,b,c,d)
  | _=>none
 ok:=by
  intro ls v h
  split at h
  ·cases h;rfl
  ·cases h
def I4 (W n k:Nat) (cs:List T) (i j:Int):Option (Nat × List T × Nat × List T):=match n with
 | 0=>none
 | _+1=>if 0≤i∧i≤j∧j≤(k:Int) then some (k - (j.toNat - i.toNat),cs.take (i.toNat * W)++cs.drop (j.toNat * W),k,cs) else none
noncomputable def I4.w {E:AX} (W:Nat) (el:List Pm) (hW:el.length=W) (h0:0<W) (hf:Al 0 el=true) (no:Nat) (h:E.fn no=some (.sem [.io,.val,.val] (SE W))):D1 E :=
 FW no [⟨.io,⟨false,[.sl .own el],[.lst 0 []]⟩⟩,GO .i64,GO .i64] P9 (.one ⟨[⟨false,[.sl .own el],[.lst 0 []]⟩],[some ⟨false,[.dead],[.lst 0 []]⟩,none,none]⟩ QA) (fun n v=>I4 W n v.1 v.2.1 v.2.2.1 v.2.2.2) (by
 intro n v r hh
 obtain ⟨k,cs,i,j⟩:=v
 cases n with
 | zero=>simp[I4] at hh
 | succ n =>
   simp only[I4] at hh
   split at hh
   ·rename_i hc
    simp only[zS] at hh
    subst hh
    have:AM E (n+1) no (Cr [⟨.io,⟨false,[.sl .own el],[.lst 0 []]⟩⟩,GO .i64,GO .i64] (P9.pk (k,cs,i,j)))=SE W [⟨.io,⟨false,[.sl .own el],[.lst k cs]⟩⟩,⟨.val,⟨false,[.leaf],[.int .i64 i]⟩⟩,⟨.val,⟨false,[.leaf],[.int .i64 j]⟩⟩]:=by simp only[AM,h];rfl
    rw[this]
    simp only[SE]
    rw[if_pos ⟨hW,h0,hf,hc⟩]
    rfl
   ·simp at hh)
def Kr:Ds (Nat × List T) where
 pk:=fun v=>[.lst v.1 v.2]
 up:=fun ls=>match ls with
  | [.lst a b]=>some (a,b)
  | _=>none
 ok:=by
  intro ls v h
  split at h
  ·cases h;rfl
  ·cases h
def Ho (n k:Nat) (cs:List T):Option (Nat × List T):=match n with
 | 0=>none
 | _+1=>if k<4611686018427387904 then some (k,cs.reverse) else none
noncomputable def Ho.w {E:AX} (no:Nat) (h:E.fn no=some (.sem [.io] SH)):D1 E :=
 FW no [⟨.io,⟨false,[.sl .own [.leaf]],[.lst 0 []]⟩⟩] Kr (.one ⟨[],[some ⟨false,[.sl .own [.leaf]],[.lst 0 []]⟩]⟩ Kr) (fun n v=>Ho n v.1 v.2) (by
 intro n v r hh
 obtain ⟨k,cs⟩:=v
 cases n with
 | zero=>simp[Ho] at hh
 | succ n =>
   simp only[Ho] at hh
   split at hh
   ·rename_i hc
    simp only[zS] at hh
    subst hh
    have:AM E (n+1) no (Cr [⟨.io,⟨false,[.sl .own [.leaf]],[.lst 0 []]⟩⟩] (Kr.pk (k,cs)))=SH [⟨.io,⟨false,[.sl .own [.leaf]],[.lst k cs]⟩⟩]:=by simp only[AM,h];rfl
    rw[this]
    simp only[SH]
    rw[if_pos hc]
    rfl
   ·simp at hh)
def Rr:Ds (Nat × List T × Int) where
 pk:=fun v=>[.lst v.1 v.2.1,.int v.2.2]
 up:=fun ls=>match ls with
  | [.lst a b,.int c]=>some (a,b,c)
  | _=>none
 ok:=by
  intro ls v h
  split at h
  ·cases h;rfl
  ·cases h
def I9 (W:Nat) (p:List T→Option Bool) (k:Nat) (cs:List T):Option (Nat × List T × Nat × List T) :=
 if k<4611686018427387904 then match Ja W p k cs with
  | none=>none
  | some (m,ds)=>some (m,ds,k,cs)
 else none
def GL (W n k:Nat) (cs:List T) (a:Int):Option (Nat × List T × Nat × List T):=match n with
 | 0=>none
 | _+1=>I9 W (Lu [.ref [.int .i64 a]]) k cs
def HZ (W n k:Nat) (cs:List T):Option (Nat × List T × Nat × List T):=match n with
 | 0=>none
 | _+1=>I9 W (N1 []) k cs
theorem Jf {fc k:Nat} {el ps:List Pm} {pr:List T→List T→Option Bool} {cs ts:List T} {r:Nat × List T × Nat × List T} (h0:0<el.length) (hf:Al 0 el=true) (he:pbeqs el el=true) (hq:pbeqs ps ps=true) (h:I9 el.length (pr ts) k cs=some r) :
  K5 fc el ps pr [⟨.io,⟨false,[.sl .own el],[.lst k cs]⟩⟩,⟨.val,⟨false,[.fn ps],[.fn fc ts]⟩⟩]=some ⟨[⟨false,[.sl .own el],[.lst r.1 r.2.1]⟩],[some ⟨false,[.dead],[.lst r.2.2.1 r.2.2.2]⟩,none]⟩:=by
 unfold I9 at h
 split at h
 ·rename_i hk
  split at h
  ·cases h
  ·rename_i m ds hr
   simp only[zS] at h
   subst h
   simp only[K5,hr]
   rw[if_pos ⟨he,h0,hf,trivial,hq,hk⟩]
 ·cases h
noncomputable def GL.w {E:AX} (W fc:Nat) (el:List Pm) (hW:el.length=W) (h0:0<W) (hf:Al 0 el=true) (he:pbeqs el el=true) (no:Nat) (h:E.fn no=some (.sem [.io,.val] (K5 fc el [.rf .shr [.leaf]] Lu))):D1 E :=
 FW no [⟨.io,⟨false,[.sl .own el],[.lst 0 []]⟩⟩,⟨.val,⟨false,[.fn [.rf .shr [.leaf]]],[.fn fc [.ref [.int .i64 0]]]⟩⟩] Rr (.one ⟨[⟨false,[.sl .own el],[.lst 0 []]⟩],[some ⟨false,[.dead],[.lst 0 []]⟩,none]⟩ QA) (fun n v=>GL W n v.1 v.2.1 v.2.2) (by
 intro n v r hh
 obtain ⟨k,cs,a⟩:=v
 cases n with
 | zero=>simp[GL] at hh
 | succ n =>
   simp only[GL] at hh
   subst hW
   have:AM E (n+1) no (Cr [⟨.io,⟨false,[.sl .own el],[.lst 0 []]⟩⟩,⟨.val,⟨false,[.fn [.rf .shr [.leaf]]],[.fn fc [.ref [.int .i64 0]]]⟩⟩] (Rr.pk (k,cs,a)))=K5 fc el [.rf .shr [.leaf]] Lu [⟨.io,⟨false,[.sl .own el],[.lst k cs]⟩⟩,⟨.val,⟨false,[.fn [.rf .shr [.leaf]]],[.fn fc [.ref [.int .i64 a]]]⟩⟩]:=by simp only[AM,h];rfl
   rw[this,Jf h0 hf he rfl hh]
   rfl)
noncomputable def HZ.w {E:AX} (W fc:Nat) (el:List Pm) (hW:el.length=W) (h0:0<W) (hf:Al 0 el=true) (he:pbeqs el el=true) (no:Nat) (h:E.fn no=some (.sem [.io,.val] (K5 fc el [] N1))):D1 E :=
 FW no [⟨.io,⟨false,[.sl .own el],[.lst 0 []]⟩⟩,⟨.val,⟨false,[.fn []],[.fn fc []]⟩⟩] Kr (.one ⟨[⟨false,[.sl .own el],[.lst 0 []]⟩],[some ⟨false,[.dead],[.lst 0 []]⟩,none]⟩ QA) (fun n v=>HZ W n v.1 v.2) (by
 intro n v r hh
 obtain ⟨k,cs⟩:=v
 cases n with
 | zero=>simp[HZ] at hh
 | succ n =>
   simp only[HZ] at hh
   subst hW
   have:AM E (n+1) no (Cr [⟨.io,⟨false,[.sl .own el],[.lst 0 []]⟩⟩,⟨.val,⟨false,[.fn []],[.fn fc []]⟩⟩] (Kr.pk (k,cs)))=K5 fc el [] N1 [⟨.io,⟨false,[.sl .own el],[.lst k cs]⟩⟩,⟨.val,⟨false,[.fn []],[.fn fc []]⟩⟩]:=by simp only[AM,h];rfl
   rw[this,Jf h0 hf he rfl hh]
   rfl)
def QZ:Ds (Nat × List T × Int × Nat × List T) where
 pk:=fun v=>[.lst v.1 v.2.1,.int v.2.2.1,.lst v.2.2.2.1 v.2.2.2.2]
 up:=fun ls=>match ls with
  | [.lst a b,.int c,.lst d e]=>some (a,b,c,d,e)
  | _=>none
 ok:=by
  intro ls v h
  split at h
  ·cases h;rfl
  ·cases h
def SU:Ds (Nat × List T × Nat × List T × Nat × List T) where
 pk:=fun v=>[.lst v.1 v.2.1,.lst v.2.2.1 v.2.2.2.1,.lst v.2.2.2.2.1 v.2.2.2.2.2]
 up:=fun ls=>match ls with
  | [.lst a b,.lst c d,.lst e f]=>some (a,b,c,d,e,f)
  | _=>none
 ok:=by
  intro ls v h
  split at h
  ·cases h;rfl
  ·cases h
def JA (W n k:Nat) (cs:List T) (i:Int) (m:Nat) (ds:List T):Option (Nat × List T × Nat × List T × Nat × List T):=match n with
 | 0=>none
 | _+1=>if m=1∧0≤i∧i≤(k:Int)∧0<k∧k<1000000 then some (k+1,cs.take (i.toNat * W)++ds++cs.drop (i.toNat * W),k,cs,m,ds) else none
noncomputable def JA.w {E:AX} (W:Nat) (el:List Pm) (hW:el.length=W) (h0:0<W) (hf:Al 0 el=true) (he:pbeqs el el=true) (no:Nat) (h:E.fn no=some (.sem [.io,.val,.io] (SW el))):D1 E :=
 FW no [⟨.io,⟨false,[.sl .own el],[.lst 0 []]⟩⟩,GO .i64,⟨.io,⟨false,[.sl .own el],[.lst 0 []]⟩⟩] QZ (.one ⟨[⟨false,[.sl .own el],[.lst 0 []]⟩],[some ⟨false,[.dead],[.lst 0 []]⟩,none,some ⟨false,[.dead],[.lst 0 []]⟩]⟩ SU) (fun n v=>JA W n v.1 v.2.1 v.2.2.1 v.2.2.2.1 v.2.2.2.2) (by
 intro n v r hh
 obtain ⟨k,cs,i,m,ds⟩:=v
 cases n with
 | zero=>simp[JA] at hh
 | succ n =>
   simp only[JA] at hh
   split at hh
   ·rename_i hc
    simp only[zS] at hh
    subst hh
    subst hW
    have:AM E (n+1) no (Cr [⟨.io,⟨false,[.sl .own el],[.lst 0 []]⟩⟩,GO .i64,⟨.io,⟨false,[.sl .own el],[.lst 0 []]⟩⟩] (QZ.pk (k,cs,i,m,ds)))=SW el [⟨.io,⟨false,[.sl .own el],[.lst k cs]⟩⟩,⟨.val,⟨false,[.leaf],[.int .i64 i]⟩⟩,⟨.io,⟨false,[.sl .own el],[.lst m ds]⟩⟩]:=by simp only[AM,h];rfl
    rw[this]
    simp only[SW]
    rw[if_pos ⟨he,he,h0,hf,hc⟩]
    rfl
   ·simp at hh)
def FU:Am:=⟨.val,⟨false,[.leaf],[.str []]⟩⟩
def TL (n:Nat):By:=⟨[⟨false,[.leaf],[.str []]⟩],List.replicate n none⟩
def RY:Ds (List UInt8) where
 pk:=fun v=>[.str v]
 up:=fun ls=>match ls with
  | [.str a]=>some a
  | _=>none
 ok:=by
  intro ls v h
  split at h
  ·cases h;rfl
  ·cases h
def LF:Ds (List UInt8 × List UInt8) where
 pk:=fun v=>[.str v.1,.str v.2]
 up:=fun ls=>match ls with
  | [.str a,.str b]=>some (a,b)
  | _=>none
 ok:=by
  intro ls v h
  split at h
  ·cases h;rfl
  ·cases h
def Rh:Ds (Int × Int) where
 pk:=fun v=>[.int v.1,.int v.2]
 up:=fun ls=>match ls with
  | [.int a,.int b]=>some (a,b)
  | _=>none
 ok:=by
  intro ls v h
  split at h
  ·cases h;rfl
  ·cases h
def SJ:Ds (List UInt8 × List UInt8 × Bool) where
 pk:=fun v=>[.str v.1,.str v.2.1,.bool v.2.2]
 up:=fun ls=>match ls with
  | [.str a,.str b,.bool c]=>some (a,b,c)
  | _=>none
 ok:=by
  intro ls v h
  split at h
  ·cases h;rfl
  ·cases h
def To:Ds Bool where
 pk:=fun v=>[.bool v]
 up:=fun ls=>match ls with
  | [.bool a]=>some a
  | _=>none
 ok:=by
  intro ls v h
  split at h
  ·cases h;rfl
  ·cases h
def ME (n:Nat) (s p:List UInt8):Option (List UInt8 × List UInt8 × Bool):=match n with
 | 0=>none
 | _+1=>if s.length<4294967281 then some (Lib.cut s p) else none
noncomputable def ME.w {E:AX} (no:Nat) (h:E.fn no=some (.ext (CM NE))):D1 E :=
 FW no [FU,FU] LF (.one ⟨[⟨false,[.leaf],[.str []]⟩,⟨false,[.leaf],[.str []]⟩,⟨false,[.leaf],[.bool false]⟩],[none,none]⟩ SJ) (fun n v=>ME n v.1 v.2) (by
 intro n v r hh
 obtain ⟨s,p⟩:=v
 cases n with
 | zero=>simp[ME] at hh
 | succ n =>
   simp only[ME] at hh
   split at hh
   ·rename_i hc
    simp only[zS] at hh
    subst hh
    have:AM E (n+1) no (Cr [FU,FU] (LF.pk (s,p)))=(match CM NE [.str s,.str p] with
     | none=>none
     | some rs=>some ⟨rs.map fun x=>⟨x.1,x.2.1,x.2.2⟩,[none,none]⟩):=by simp only[AM,h];rfl
    rw[this]
    simp only[CM,NE]
    rw[if_pos hc]
    rfl
   ·simp at hh)
def FB (n:Nat) (i b:Int):Option (List UInt8):=match n with
 | 0=>none
 | _+1=>if b=10 ∧ -9223372036854775808≤i∧i≤9223372036854775807 then some (Lib.itoa i) else none
noncomputable def FB.w {E:AX} (no:Nat) (h:E.fn no=some (.ext (CM D5))):D1 E :=
 FW no [GO .i64,GO .i64] Rh (.one (TL 2) RY) (fun n v=>FB n v.1 v.2) (by
 intro n v r hh
 obtain ⟨i,b⟩:=v
 cases n with
 | zero=>simp[FB] at hh
 | succ n =>
   simp only[FB] at hh
   split at hh
   ·rename_i hc
    simp only[zS] at hh
    subst hh
    have:AM E (n+1) no (Cr [GO .i64,GO .i64] (Rh.pk (i,b)))=(match CM D5 [.int .i64 i,.int .i64 b] with
     | none=>none
     | some rs=>some ⟨rs.map fun x=>⟨x.1,x.2.1,x.2.2⟩,[none,none]⟩):=by simp only[AM,h];rfl
    rw[this]
    simp only[CM,D5]
    rw[if_pos hc]
    rfl
   ·simp at hh)
def F8 (n:Nat) (s p:List UInt8):Option Bool:=match n with
 | 0=>none
 | _+1=>if p.length=1 then some (decide (0≤Lib.indexByte s (p.getD 0 0))) else none
noncomputable def F8.w {E:AX} (no:Nat) (h:E.fn no=some (.ext (CM IU))):D1 E :=
 FW no [FU,FU] LF (.one ⟨[⟨false,[.leaf],[.bool false]⟩],[none,none]⟩ To) (fun n v=>F8 n v.1 v.2) (by
 intro n v r hh
 obtain ⟨s,p⟩:=v
 cases n with
 | zero=>simp[F8] at hh
 | succ n =>
   simp only[F8] at hh
   split at hh
   ·rename_i hc
    simp only[zS] at hh
    subst hh
    have:AM E (n+1) no (Cr [FU,FU] (LF.pk (s,p)))=(match CM IU [.str s,.str p] with
     | none=>none
     | some rs=>some ⟨rs.map fun x=>⟨x.1,x.2.1,x.2.2⟩,[none,none]⟩):=by simp only[AM,h];rfl
    rw[this]
    simp only[CM,IU]
    rw[if_pos hc]
    rfl
   ·simp at hh)
def Ru:Ds (Nat × List T × List UInt8) where
 pk:=fun v=>[.lst v.1 v.2.1,.str v.2.2]
 up:=fun ls=>match ls with
  | [.lst a b,.str c]=>some (a,b,c)
  | _=>none
 ok:=by
  intro ls v h
  split at h
  ·cases h;rfl
  ·cases h
def Fb (n:Nat) (s:List UInt8):Option (Nat × List T × List UInt8):=match n with
 | 0=>none
 | _+1=>if s.length<1000000 then some ((AZ 10 s).length - 1,(AZ 10 s).dropLast.map T.str,(AZ 10 s).getLastD []) else none
noncomputable def Fb.w {E:AX} (no:Nat) (h:E.fn no=some (.sem [.val] Ev)):D1 E :=
 FW no [FU] RY (.one ⟨[⟨false,[.sl .own [.leaf]],[.lst 0 []]⟩,⟨false,[.leaf],[.str []]⟩],[none]⟩ Ru) (fun n v=>Fb n v) (by
 intro n v r hh
 cases n with
 | zero=>simp[Fb] at hh
 | succ n =>
   simp only[Fb] at hh
   split at hh
   ·rename_i hc
    simp only[zS] at hh
    subst hh
    have:AM E (n+1) no (Cr [FU] (RY.pk v))=Ev [⟨.val,⟨false,[.leaf],[.str v]⟩⟩]:=by simp only[AM,h];rfl
    rw[this]
    simp only[Ev]
    rw[if_pos hc]
    rfl
   ·simp at hh)
def QE:Ds (List UInt8 × Int) where
 pk:=fun v=>[.str v.1,.int v.2]
 up:=fun ls=>match ls with
  | [.str a,.int b]=>some (a,b)
  | _=>none
 ok:=by
  intro ls v h
  split at h
  ·cases h;rfl
  ·cases h
def E2 (n:Nat) (s:List UInt8) (c:Int):Option Int:=match n with
 | 0=>none
 | _+1=>if 0≤c∧c<256 then some (Lib.indexByte s c.toNat.toUInt8) else none
noncomputable def E2.w {E:AX} (no:Nat) (h:E.fn no=some (.ext (CM HA))):D1 E :=
 FW no [FU,GO .u8] QE (.one ⟨[⟨false,[.leaf],[.int .i64 0]⟩],[none,none]⟩ OE) (fun n v=>E2 n v.1 v.2) (by
 intro n v r hh
 obtain ⟨s,c⟩:=v
 cases n with
 | zero=>simp[E2] at hh
 | succ n =>
   simp only[E2] at hh
   split at hh
   ·rename_i hc
    simp only[zS] at hh
    subst hh
    have:AM E (n+1) no (Cr [FU,GO .u8] (QE.pk (s,c)))=(match CM HA [.str s,.int .u8 c] with
     | none=>none
     | some rs=>some ⟨rs.map fun x=>⟨x.1,x.2.1,x.2.2⟩,[none,none]⟩):=by simp only[AM,h];rfl
    rw[this]
    simp only[CM,HA]
    rw[if_pos hc]
    rfl
   ·simp at hh)
def MB (n:Nat) (s p:List UInt8):Option (Nat × List T):=match n with
 | 0=>none
 | _+1=>if s.length<4294967281∧1≤p.length then some ((Lib.split s p).length,(Lib.split s p).map T.str) else none
noncomputable def MB.w {E:AX} (no:Nat) (h:E.fn no=some (.ext OR)):D1 E :=
 FW no [FU,FU] LF (.one ⟨[⟨false,[.sl .own [.leaf]],[.lst 0 []]⟩],[none,none]⟩ Kr) (fun n v=>MB n v.1 v.2) (by
 intro n v r hh
 obtain ⟨s,p⟩:=v
 cases n with
 | zero=>simp[MB] at hh
 | succ n =>
   simp only[MB] at hh
   split at hh
   ·rename_i hc
    simp only[zS] at hh
    subst hh
    have:AM E (n+1) no (Cr [FU,FU] (LF.pk (s,p)))=(match OR [.str s,.str p] with
     | none=>none
     | some rs=>some ⟨rs.map fun x=>⟨x.1,x.2.1,x.2.2⟩,[none,none]⟩):=by simp only[AM,h];rfl
    rw[this]
    simp only[OR]
    rw[if_pos hc]
    rfl
   ·simp at hh)
def QI:Ds (Nat × List T × List UInt8) where
 pk:=fun v=>[.lst v.1 v.2.1,.str v.2.2]
 up:=fun ls=>match ls with
  | [.lst a b,.str c]=>some (a,b,c)
  | _=>none
 ok:=by
  intro ls v h
  split at h
  ·cases h;rfl
  ·cases h
def OZ (n k:Nat) (cs:List T) (p:List UInt8):Option (List UInt8):=match n with
 | 0=>none
 | _+1=>match Nv cs with
   | none=>none
   | some l=>if k=l.length∧k≤1000000000∧(Lib.join l p).length≤140737488355328 then some (Lib.join l p) else none
noncomputable def OZ.w {E:AX} (no:Nat) (h:E.fn no=some (.sem [.val,.val] Qa)):D1 E :=
 FW no [⟨.val,⟨false,[.sl .shr [.leaf]],[.lst 0 []]⟩⟩,FU] QI (.one ⟨[⟨false,[.leaf],[.str []]⟩],[none,none]⟩ RY) (fun n v=>OZ n v.1 v.2.1 v.2.2) (by
 intro n v r hh
 obtain ⟨k,cs,p⟩:=v
 cases n with
 | zero=>simp[OZ] at hh
 | succ n =>
   simp only[OZ] at hh
   split at hh
   ·simp at hh
   ·rename_i l hl
    split at hh
    ·rename_i hc
     simp only[zS] at hh
     subst hh
     have:AM E (n+1) no (Cr [⟨.val,⟨false,[.sl .shr [.leaf]],[.lst 0 []]⟩⟩,FU] (QI.pk (k,cs,p)))=Qa [⟨.val,⟨false,[.sl .shr [.leaf]],[.lst k cs]⟩⟩,⟨.val,⟨false,[.leaf],[.str p]⟩⟩]:=by simp only[AM,h];rfl
     rw[this]
     simp only[Qa,hl]
     rw[if_pos hc]
     rfl
    ·simp at hh)
inductive LR:List T→List Value→Prop
 | nil:LR [] []
 | cons {t ts x xs} (h:AG t x) (r:LR ts xs):LR (t::ts) (x::xs)
theorem PN {w:World} {Fz:Nat→Prop} {az:List Am} {xs:List Value} {mfp:Fp} (h:Bz w Fz az xs mfp) (hv:az.all EP=true):LR (az.flatMap fun a=>a.v.cs) xs:=by
 induction h with
 | nil=>exact .nil
 | @val v x vs az xs fs hc hR r ih =>
   simp only[all_cons,zB] at hv
   obtain ⟨h1,h2⟩:=hv
   obtain ⟨a,p,cs⟩:=v
   unfold EP at h1
   split at h1
   ·rename_i t e
    simp only[Am.mk.injEq,V.mk.injEq,true_and] at e
    obtain ⟨rfl,rfl,rfl⟩:=e
    have:=Aa hc
    subst this
    cases hR with
    | leaf hl _=>exact .cons hl (ih h2)
   ·simp at h1
 | io=>simp[EP] at hv
 | iop=>simp[EP] at hv
section
variable {P:Program} {L:List String} {f:Nat} {fn:Func}
variable (hf : P.funcs[f]? = some fn) (hname : (fn.name == "runtime.NumGoroutine") = false) (hb : fn.body.isNone = true) (hn : Extern.findNext fn = none)
include hf hname hb hn
end
def OU (k:FloatKind) (x:Nat):Prop:=Af k x=x∧(Lit.float k x).wf=true
section
variable {E:AX} {t:Nat} {d:TD} {ts:List T}
theorem WT.str_inv (h:WT E t ts) (hd:E.ty t=some d) (hk:d.kd = .str):∃ s,ts=[.str s]∧s.length≤maxLen:=by
 cases h with
 | str h' hk' hl=>exact ⟨_,rfl,hl⟩
 | _ h' hk'=>rw[hd] at h';cases h';rw[hk] at hk';cases hk'
end
theorem Ch.cons_inv {E:AX} {t:Nat} {tys:List Nat} {az:List Am} {d:TD} (hd:E.ty t=some d) (h:Ch E (t::tys) az):∃ ts r,az=⟨.val,⟨d.agg,shares d.own,ts⟩⟩::r∧WT E t ts∧Ch E tys r:=by
 cases h with
 | cons hd' hw r =>
   rw[hd] at hd';cases hd'
   exact ⟨_,_,rfl,hw,r⟩
theorem Ch.nil_inv {E:AX} {az:List Am} (h:Ch E [] az):az=[]:=by cases h;rfl
theorem DB {x:Int} (h1 : -9223372036854775808≤x) (h2:x≤9223372036854775807):IntKind.i64.wrap x=x:=by
 rw[IntKind.wrap_i64];omega
theorem Bb {i:Nat} (h:i<9223372036854775807):IntKind.i64.wrap ((i:Int)+1)=((i+1:Nat):Int):=by
 rw[DB] <;>omega
theorem Gu {i n:Nat} (h:i<n):decide ((i:Int)<(n:Int))=true:=by simp;omega
theorem E9 {i n:Nat} (h:n≤i):decide ((i:Int)<(n:Int))=false:=by simp;omega
theorem Fh {i n:Nat} (h:i<n):decide ((0:Int)≤(i:Int)∧(i:Int)<(n:Int))=true:=by simp;omega
structure TO (P:Program) (f:Nat) (W:Nat):Prop where
 enter:∀ xs w,(callFunc f xs).run P w = .ok (.enter f xs) w
 same:∀ (w:World) (a:Option Addr) (n cap i:Nat),n≤cap→i≤n→(a=none→n=0∧cap=0)→(∀ x,a=some x→x.spot=none) →
  Calls P f #[.slice a n cap,.int .i64 i,.int .i64 i] w fun e w'=>e = .returned (.slice a n cap)∧w'=w
 move:∀ (w:World) (b off n cap i j:Nat) (vs:List Value),vs.length=n * W→(∀ t u,vs[t]?=some u→w.cell? ⟨b,off+t,none⟩=some u)→(∀ t,t<vs.length→w.frozen? ⟨b,off+t,none⟩=false) →
  (∀ u∈vs,u.oneCell'=true)→n≤cap→i<j→j≤n→∃ zs:List Value,zs.length=(j - i) * W ∧
  Calls P f #[.slice (some ⟨b,off,none⟩) n cap,.int .i64 i,.int .i64 j] w fun e w'=>e = .returned (.slice (some ⟨b,off,none⟩) (n - (j - i)) cap)∧w'=H9 (H9 w.drew b (off+i * W) (vs.drop (j * W))) b (off+(i+(n - j)) * W) zs
structure TK (P:Program) (f:Nat):Prop where
 enter:∀ xs w,(callFunc f xs).run P w = .ok (.enter f xs) w
 none:∀ (w:World) (a:Option Addr) (cap:Nat),Calls P f #[.slice a 0 cap] w fun e w'=>e = .returned (.tuple #[])∧w'=w
 turn:∀ (w:World) (b off n cap:Nat) (vs:List Value),vs.length=n→(∀ t u,vs[t]?=some u→w.cell? ⟨b,off+t,.none⟩=some u)→(∀ t,t<vs.length→w.frozen? ⟨b,off+t,.none⟩=false) →
  (∀ u∈vs,u.oneCell'=true)→n<4611686018427387904 →
  Calls P f #[.slice (some ⟨b,off,.none⟩) n cap] w fun e w'=>e = .returned (.tuple #[])∧∃ q,w'=H9 { w with drawn:=w.drawn+q } b off vs.reverse
theorem O4 (w:World) (q:Nat) (W:Nat→Nat→Prop):Ab w { w with drawn:=w.drawn+q } W:=⟨rfl,rfl,rfl,Nat.le_refl _,fun _ row _ fr h=>⟨row,fr,h,rfl,fun _ _=>rfl,.inl rfl⟩,fun _ _ h _=>h⟩
def Hr {α:Type} (W:Nat):List Bool→List α→List α
 | [],_=>[]
 | true::bs,xs=>Hr W bs (xs.drop W)
 | false::bs,xs=>xs.take W++Hr W bs (xs.drop W)
def La:List Bool→Nat
 | []=>0
 | true::bs=>La bs
 | false::bs=>La bs+1
theorem R.keep {w:World} {Fz:Nat→Prop} {Lt:Nat→Nat→Prop} {g:Nat} {el:List Pm}:∀ {bs:List Bool} {cs:List T} {vs:List Value} {f:Fp},R w Fz Lt g (rep bs.length el) cs vs f →
  ∃ f',List.Sublist f' f∧R w Fz Lt g (rep (La bs) el) (Hr el.length bs cs) (Hr el.length bs vs) f'
 | [],_,_,_,h=>by cases h;exact ⟨[],List.Sublist.refl _,.nil⟩
 | b::bs,cs,vs,f,h=>by
   rw[length_cons,Ba] at h
   obtain ⟨c1,c2,v1,v2,f1,f2,rfl,rfl,rfl,h1,h2⟩:=h.split
   obtain ⟨f',s,k⟩:=h2.keep (bs:=bs)
   have l1:=h1.length_eq
   cases b
   ·refine ⟨f1++f',List.Sublist.append (List.Sublist.refl _) s,?_⟩
    show R w Fz Lt g (rep (La bs+1) el) ((c1++c2).take el.length++Hr el.length bs ((c1++c2).drop el.length)) ((v1++v2).take el.length++Hr el.length bs ((v1++v2).drop el.length)) _
    rw[take_left' l1.1,drop_left' l1.1,take_left' l1.2,drop_left' l1.2,Ba]
    exact h1.append k
   ·refine ⟨f',s.trans (List.sublist_append_right _ _),?_⟩
    show R w Fz Lt g (rep (La bs) el) (Hr el.length bs ((c1++c2).drop el.length)) (Hr el.length bs ((v1++v2).drop el.length)) _
    rw[drop_left' l1.1,drop_left' l1.2]
    exact k
theorem R.rowAt {w:World} {Fz:Nat→Prop} {Lt:Nat→Nat→Prop} {g n i:Nat} {el:List Pm} {cs:List T} {vs:List Value} {f:Fp} (h:R w Fz Lt g (rep n el) cs vs f) (hi:i<n) :
  ∃ f',List.Sublist f' f∧R w Fz Lt g el ((cs.drop (i * el.length)).take el.length) ((vs.drop (i * el.length)).take el.length) f' :=by
 rw[show n=i+(1+(n - i - 1)) by omega,Eu,Eu,BI] at h
 obtain ⟨c1,c23,v1,v23,f1,f23,rfl,rfl,rfl,h1,h23⟩:=h.split
 obtain ⟨c2,c3,v2,v3,f2,f3,rfl,rfl,rfl,h2,h3⟩:=h23.split
 have l1:=h1.length_eq
 have l2:=h2.length_eq
 rw[A6] at l1
 refine ⟨f2,(List.sublist_append_left _ _).trans (List.sublist_append_right _ _),?_⟩
 rw[drop_left' l1.1,drop_left' l1.2,take_left' l2.1,take_left' l2.2]
 exact h2
structure TF (P:Program) (f W fc:Nat):Prop where
 enter:∀ xs w,(callFunc f xs).run P w = .ok (.enter f xs) w
 none:∀ (w:World) (fv:Value),Calls P f #[.slice .none 0 0,fv] w fun e w'=>e = .returned (.slice .none 0 0)∧Ab w w' (fun _ _=>False)
 run:∀ (w:World) (b off n cap:Nat) (vs:List Value) (caps:Array Value) (bs:List Bool),vs.length=n * W→bs.length=n→(∀ t u,vs[t]?=some u→w.cell? ⟨b,off+t,.none⟩=some u)→(∀ t,t<vs.length→w.frozen? ⟨b,off+t,.none⟩=false) →
  (∀ u∈vs,u.oneCell'=true)→n≤cap→n<4611686018427387904 →
  (∀ i c w',bs[i]?=some c→Ab w w' (fun b' t=>b'=b∧off≤t∧t<off+n * W)→Calls P fc (#[.agg ((vs.drop (i * W)).take W).toArray]++caps) w' fun e w''=>e = .returned (.bool c)∧Ab w' w'' (fun _ _=>False)) →
  Calls P f #[.slice (some ⟨b,off,.none⟩) n cap,.func (.func fc) #[] caps] w fun e w'=>e = .returned (.slice (some ⟨b,off,.none⟩) (La bs) cap)∧Ab w w' (fun b' t=>b'=b∧off≤t∧t<off+n * W) ∧
   ∀ t u,(Hr W bs vs)[t]?=some u→w'.cell? ⟨b,off+t,.none⟩=some u
structure Tn (P:Program) (f:Nat) (W:Nat):Prop where
 enter:∀ xs w,(callFunc f xs).run P w = .ok (.enter f xs) w
 run:∀ (w:World) (b off n cap i vb voff vc:Nat) (vs us:List Value) (row vrow:Array Value) (e ve:TypeId) (fr vfr:Nat × Nat),
  w.heap[b]?=some (.cells row e fr)→w.heap[vb]?=some (.cells vrow ve vfr)→vb≠b→off+cap * W≤row.size→voff+W≤vrow.size →
  seg row off (n * W)=vs→seg vrow voff W=us→(∀ u∈vs,u.oneCell'=true)→(∀ u∈us,u.oneCell'=true) →
  (∀ j,off≤j→¬ (fr.1≤j∧j<fr.2))→(∀ j,voff≤j→¬ (vfr.1≤j∧j<vfr.2)) →
  0<n→n≤cap→i≤n→n<1000000→1≤vc →
  Calls P f #[.slice (some ⟨b,off,none⟩) n cap,.int .i64 i,.slice (some ⟨vb,voff,none⟩) 1 vc] w fun x w'=>∃ b' off' cap',x = .returned (.slice (some ⟨b',off',none⟩) (n+1) cap')∧n+1≤cap' ∧
   ∃ row' e' fr',w'.heap[b']?=some (.cells row' e' fr')∧off'+cap' * W≤row'.size∧seg row' off' ((n+1) * W)=vs.take (i * W)++us++vs.drop (i * W)∧(∀ j,off'≤j→¬ (fr'.1≤j∧j<fr'.2)) ∧
    ((b'=b∧off'=off∧cap'=cap∧Ab w w' (fun b1 t=>b1=b∧off≤t∧t<off+cap * W))∨(w.heap.size≤b'∧Ab w w' (fun _ _=>False)))
end Go.Desk
end
section
namespace Go.Desk
open Go Go.Sort
set_option linter.unusedVariables false
def SO:List Value→Value
 | [y]=>y
 | ys => .tuple ys.toArray
structure Lz (P:Program) (L:List String) (f:Nat) (h:List T→Option (List T)):Prop where
 enter:∀ xs w,(callFunc f xs).run P w = .ok (.enter f xs) w
 runs:∀ ts rs xs (w:World) (Fz:Nat→Prop),h ts=some rs→LR ts xs→Laid P L w Fz→Calls P f xs.toArray w fun e w'=>∃ ys,LR rs ys∧e = .returned (SO ys)∧Ab w w' (fun _ _=>False)
theorem PT {w:World} {Fz:Nat→Prop} {az:List Am} {xs:List Value} {mfp:Fp} (hA:Bz w Fz az xs mfp) (hv:(az.all EP)=true) :
  mfp=[]∧∀ (w':World) (L:Nat→Nat→Prop) (g:Nat),C2 w' Fz L g az xs (az.map fun _=>none) []:=by
 induction hA with
 | nil=>exact ⟨rfl,fun _ _ _ => .nil⟩
 | val hc hR r ih =>
   simp only[all_cons,zB] at hv
   exact ⟨(ih hv.2).1,fun w' L g => .val ((ih hv.2).2 w' L g)⟩
 | io=>simp[EP] at hv
 | iop=>simp[EP] at hv
theorem LX {w:World} {Fz:Nat→Prop}:∀ {rs:List T} {ys:List Value},LR rs ys→Dy w Fz noLt 0 ((Qb rs).map fun x=>⟨x.1,x.2.1,x.2.2⟩) ys (rs.map fun _=>[])
 | _,_,.nil => .nil
 | _,_,.cons h r => .cons (show AD false _ [_] from rfl) (.leaf h .nil) (LX r)
theorem Hu (rs:List T):(rs.map fun _=>([]:Fp)).flatten=[]:=by
 induction rs with
 | nil=>rfl
 | cons _ _ ih=>simp
theorem LR.length {rs:List T} {ys:List Value} (h:LR rs ys):rs.length=ys.length:=by
 induction h with
 | nil=>rfl
 | cons _ _ ih=>simp[ih]
theorem Jg {P:Program} {L:List String} {f:Nat} {h:List T→Option (List T)} (hr:Lz P L f h):LA P L f (CM h):=by
 intro az r h0 w Fz xs mfp hA hnd hF hLd
 simp only[SK] at h0
 split at h0
 case isFalse=>cases h0
 rename_i hv
 split at h0
 ·cases h0
 rename_i rs0 hrs
 simp only[zS] at h0
 subst h0
 obtain ⟨rfl,hO⟩:=PT hA hv
 have hL:=PN hA hv
 generalize az.flatMap (fun a=>a.v.cs)=ts at hL hrs
 unfold CM at hrs
 obtain ⟨rs,h1,rfl⟩:=Option.map_eq_some_iff.1 hrs
 refine .inr ⟨hr.enter _ _,(hr.runs ts rs xs w Fz h1 hL hLd).mono ?_⟩
 rintro e w' ⟨ys,h2,rfl,h3⟩
 refine ⟨h3.mono (by simp),noLt,0,rs.map fun _=>[],[],⟨ys,LX h2,?_⟩,hO w' _ _,by simp[Hu],fun x hx=>by simp[Hu] at hx⟩
 cases h2 with
 | nil=>rfl
 | cons a b =>
   cases b with
   | nil=>rfl
   | cons=>rfl
theorem Gr (w:World) (n:Nat):Ab w (w.drewN n) (fun _ _=>False):=O4 w n _
theorem QG (w:World) (os:Array Obj) (W:Nat→Nat→Prop):Ab w (grow w os) W:=by
 refine ⟨rfl,rfl,rfl,by simp[grow],fun b row e fr h=>⟨row,fr,?_,rfl,fun _ _=>rfl,.inl rfl⟩,fun b o h _ => ?_⟩
 ·have:=(Array.getElem?_eq_some_iff.1 h).1
  simp only[grow];rw[Array.getElem?_append_left this,h]
 ·have:=(Array.getElem?_eq_some_iff.1 h).1
  simp only[grow];rw[Array.getElem?_append_left this,h]
theorem RM {P : Program} {L : List String} {f g : Nat} (he : ∀ xs w, (callFunc f xs).run P w = .ok (.enter f xs) w) (hg : P.globalNamed "internal/bytealg.MaxLen" = some g) (hL : "internal/bytealg.MaxLen" ∈ L)
  (hc:∀ (s sep:ByteArray) (m:Int) (w:World) (hs:s.size<4294967281) (hm:w.cell? ⟨g,0,none⟩=some (.int .i64 m)),
    Calls P f #[.string s,.string sep] w fun e w'=>e = .returned (.tuple #[.string ⟨(Lib.cut s.data.toList sep.data.toList).1.toArray⟩,.string ⟨(Lib.cut s.data.toList sep.data.toList).2.1.toArray⟩,.bool (Lib.cut s.data.toList sep.data.toList).2.2])∧∃ n,w'=w.drewN n):Lz P L f NE:=by
 refine ⟨he,fun ts rs xs w Fz h hA hLd => ?_⟩
 unfold NE at h
 split at h
 case h_2=>cases h
 rename_i s p
 split at h
 case isFalse=>cases h
 rename_i hs
 simp only[zS] at h
 subst h
 obtain ⟨-,row,e,fr,hrow,-,hm⟩:=hLd _ hL g hg
 simp only[Gs,if_true] at hm
 obtain ⟨m,rfl⟩:=hm
 cases hA with
 | cons h1 r =>
 cases r with
 | cons h2 r =>
 cases r with
 | nil =>
 simp only[AG] at h1 h2
 subst h1 h2
 refine (hc ⟨⟨s⟩⟩ ⟨⟨p⟩⟩ m w (by show s.length<_;exact hs) (by simp[World.cell?,hrow])).mono ?_
 rintro e w' ⟨rfl,n,rfl⟩
 exact ⟨_,.cons rfl (.cons rfl (.cons rfl .nil)),rfl,Gr w n⟩
theorem OI {P : Program} {L : List String} {f : Nat} (he : ∀ xs w, (callFunc f xs).run P w = .ok (.enter f xs) w) (hg : (P.globalNamed "internal/strconv.uint64pow10").isSome = true) (hL : "internal/strconv.uint64pow10" ∈ L)
  (hc : ∀ (n : Int) (h0 : -9223372036854775808 ≤ n) (h1 : n ≤ 9223372036854775807) (w : World) (htab : Lib.TabIs P w "internal/strconv.uint64pow10" .u64 Lib.pow10Tab),
    Calls P f #[.int .i64 n,.int .i64 10] w fun e w'=>e = .returned (.string ⟨(Lib.itoa n).toArray⟩)∧∃ k os,w'=grow (w.drewN k) os):Lz P L f D5:=by
 obtain ⟨g,hg⟩:=Option.isSome_iff_exists.1 hg
 refine ⟨he,fun ts rs xs w Fz h hA hLd => ?_⟩
 unfold D5 at h
 split at h
 case h_2=>cases h
 rename_i n b
 split at h
 case isFalse=>cases h
 rename_i hn
 obtain ⟨rfl,hn⟩:=hn
 simp only[zS] at h
 subst h
 obtain ⟨-,row,e,fr,hrow,-,hm⟩:=hLd _ hL g hg
 have hm:row=((List.range 20).map fun i=>Value.int .u64 ((10 ^ i:Nat):Int)).toArray:=by
  unfold Gs at hm
  rw[if_neg (by decide),if_pos rfl] at hm
  exact hm
 have htab : Lib.TabIs P w "internal/strconv.uint64pow10" .u64 Lib.pow10Tab := by
  unfold Lib.TabIs World.var?
  rw[hg]
  simp only[Option.bind_some,hrow,Lib.pow10Tab,map_map]
  rw[hm];rfl
 cases hA with
 | cons h1 r =>
 cases r with
 | cons h2 r =>
 cases r with
 | nil =>
 simp only[AG] at h1 h2
 subst h1 h2
 refine (hc n hn.1 hn.2 w htab).mono ?_
 rintro e w' ⟨rfl,k,os,rfl⟩
 refine ⟨[_],.cons rfl .nil,rfl,?_⟩
 exact (Gr w k).trans (QG _ os (fun _ _=>False)) (fun _ _ h=>h) (fun _ _ _ h=>h)
end Go.Desk
end
section
namespace Go.Desk
open Go Go.Sort
set_option linter.unusedVariables false
theorem Jj (m:UInt8):∀ s,∃ ps p,AZ m s=ps++[p]
 | []=>⟨[],[],rfl⟩
 | c::r=>by
   obtain ⟨ps,p,h⟩:=Jj m r
   unfold AZ
   cases c==m with
   | true=>exact ⟨[]::ps,p,by simp[h]⟩
   | false =>
     cases ps with
     | nil=>exact ⟨[],c::p,by simp[h]⟩
     | cons q qs=>exact ⟨(c::q)::qs,p,by simp[h]⟩
theorem R.leavesLR {w:World} {Fz:Nat→Prop} {Lt:Nat→Nat→Prop} {g:Nat}:∀ {n:Nat} {cs:List T} {vs:List Value} {f:Fp},R w Fz Lt g (rep n [.leaf]) cs vs f→f=[]∧LR cs vs∧cs.length=n
 | 0,_,_,_,h=>by cases h;exact ⟨rfl,.nil,rfl⟩
 | n+1,_,_,_,h=>by
   have h:R w Fz Lt g (.leaf::rep n [.leaf]) _ _ _:=h
   cases h with
   | leaf hl hr =>
     obtain ⟨rfl,h2,h3⟩:=hr.leavesLR
     exact ⟨rfl,.cons hl h2,by simp[h3]⟩
theorem LR.leaves {w:World} {Fz:Nat→Prop} {Lt:Nat→Nat→Prop} {g:Nat}:∀ {cs:List T} {vs:List Value},LR cs vs→R w Fz Lt g (rep cs.length [.leaf]) cs vs []
 | _,_,.nil => .nil
 | _,_,.cons h r => .leaf h r.leaves
theorem LR.split {a b:List T}:∀ {vs:List Value},LR (a++b) vs→LR a (vs.take a.length)∧LR b (vs.drop a.length):=by
 induction a with
 | nil=>intro vs h;exact ⟨by simpa using LR.nil,by simpa using h⟩
 | cons t a ih =>
   intro vs h
   cases h with
   | cons h1 r =>
     obtain ⟨h2,h3⟩:=ih r
     exact ⟨.cons h1 h2,h3⟩
structure Qv (P:Program) (f g:Nat):Prop where
 enter:∀ xs w,(callFunc f xs).run P w = .ok (.enter f xs) w
 enter':∀ xs w,(callFunc g xs).run P w = .ok (.enter g xs) w
 run:∀ (w:World) (s last:ByteArray) (n:Nat) (Q:Nat→Nat→Nat→World→Prop)
  (_:Calls P g #[.string s,.int .u8 10] w fun e w'=>∃ b off cap,e = .returned (.slice (some ⟨b,off,none⟩) (n+1) cap)∧n+1≤cap∧w'.cell? ⟨b,off+n,none⟩=some (.string last)∧Q b off cap w')
  (_:∀ b off cap w' q,Q b off cap w'→Q b off cap (w'.drewN q)) (_:n<1000000),
  Calls P f #[.string s] w fun e w'=>∃ b off cap,e = .returned (.tuple #[.slice (some ⟨b,off,none⟩) n cap,.string last])∧Q b off cap w'
end Go.Desk
end
