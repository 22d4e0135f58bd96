/- FnBlocks holds: for every input the law returns true, and its arguments read as before. -/
import Derived.Test.YtokonabdnlckdaaGreatM3b
set_option linter.all false
set_option linter.unusedVariables false
open List (all_cons all_eq_true any_eq_false any_eq_true append_assoc append_nil cons_append count_append drop_drop drop_eq_getElem_cons drop_eq_nil_of_le drop_left' drop_zero flatMap_append flatMap_cons flatMap_def flatMap_singleton flatten_cons flatten_nil foldl_cons length_cons length_drop length_eq_one_iff length_eq_zero_iff length_map length_nil length_set length_singleton length_take mapM_cons map_append map_congr_left map_cons map_nil mem_append mem_append_left mem_append_right mem_cons mem_cons_of_mem mem_cons_self mem_flatten mem_map mem_of_mem_drop mem_or_eq_of_mem_set mem_singleton nil_append nodup_append nodup_cons not_mem_nil perm_append_comm perm_iff_count perm_middle replicate_succ take_append_drop take_left' take_length take_of_length_le take_succ_cons take_zero)
section
namespace Go.Desk
open Go
def D5 (σ:AS) (st:Ez):AS:=⟨Az st.ups σ.env,st.g.getD σ.g⟩
def D7 (σ0:AS) (sts:List Ez) (S:Nat→Bool):Nat→AS
 | 0=>σ0
 | n+1=>match sts[n]? with
   | some st=>if S n then D5 (D7 σ0 sts S n) st else D7 σ0 sts S n
   | none=>D7 σ0 sts S n
theorem DX {σ0:AS} {sts:List Ez} {S:Nat→Bool} {n:Nat} {st:Ez} (h:sts[n]?=some st):D7 σ0 sts S (n+1)=if S n then D5 (D7 σ0 sts S n) st else D7 σ0 sts S n:=by
 simp only[D7,h]
theorem RY (σ:AS) (st:Ez) (sts:List Ez) (i:Nat):D7 σ (st::sts) (fun _=>true) (i+1)=D7 (D5 σ st) sts (fun _=>true) i:=by
 induction i with
 | zero=>simp[D7]
 | succ i ih =>
   rw[D7,ih]
   simp only[List.getElem?_cons_succ]
   rw[D7]
   cases sts[i]? <;>simp
theorem KT {E:Av} {callF:Nat→List Aa→Option Dv} {ops:Array Oper}:∀ {l:List Oper} {σ σ':AS} {fs:List (List Nat × List Nat)},IP E callF ops l σ=some (σ',fs) →
  ∃ sts:List Ez,fs=sts.map (fun st=>(st.foot,st.writes))∧sts.length=l.length∧(∀ (i:Nat) o,l[i]?=some o→∃ st,sts[i]?=some st∧C9 E callF ops o (D7 σ sts (fun _=>true) i)=some st)∧σ'=D7 σ sts (fun _=>true) l.length
 | [],σ,σ',fs,h=>by
   simp only[IP,zS,zP] at h
   obtain ⟨rfl,rfl⟩:=h
   exact ⟨[],rfl,rfl,by simp,rfl⟩
 | o::l,σ,σ',fs,h=>by
   simp only[IP] at h
   split at h
   ·simp at h
   rename_i st hst
   split at h
   ·simp at h
   rename_i σ1 fs1 h1
   simp only[zS,zP] at h
   obtain ⟨rfl,rfl⟩:=h
   obtain ⟨sts,rfl,hl,hs,rfl⟩:=KT h1
   refine ⟨st::sts,rfl,by simp[hl],fun i o' ho' => ?_,?_⟩
   ·cases i with
    | zero =>
      simp only[List.getElem?_cons_zero,zS] at ho'
      subst ho'
      exact ⟨st,rfl,hst⟩
    | succ i =>
      obtain ⟨st',k1,k2⟩:=hs i o' (by simpa using ho')
      exact ⟨st',by simpa using k1,by rw[RY];exact k2⟩
   ·simp only[length_cons]
    rw[RY];rfl
theorem G8 (σ:AS) (st:Ez) (k:Nat):AG (D5 σ st).env k=(OQ st.ups k).getD (AG σ.env k):=K9 _ _ _
theorem Cm {σ0:AS} {sts:List Ez} {S S':Nat→Bool} {k:Nat}:∀ {N:Nat},(∀ n st,n<N→sts[n]?=some st→k∈st.ups.map (·.1)→S n=S' n)→AG (D7 σ0 sts S N).env k=AG (D7 σ0 sts S' N).env k
 | 0,_=>rfl
 | N+1,h=>by
   have ih:=Cm (σ0:=σ0) (N:=N) fun n st hn=>h n st (by omega)
   cases hs:sts[N]? with
   | none=>simp only[D7,hs];exact ih
   | some st =>
     rw[DX hs,DX hs]
     by_cases hk:k∈st.ups.map (·.1)
     ·rw[h N st (by omega) hs hk]
      cases S' N
      ·simpa using ih
      ·simp only[if_true,G8,ih]
     ·have hu:=G3 hk
      cases S N <;>cases S' N <;>simp[G8,hu,ih]
theorem GD {σ0:AS} {sts:List Ez} {S S':Nat→Bool}:∀ {N:Nat},(∀ n st,n<N→sts[n]?=some st→st.g.isSome=true→S n=S' n)→(D7 σ0 sts S N).g=(D7 σ0 sts S' N).g
 | 0,_=>rfl
 | N+1,h=>by
   have ih:=GD (σ0:=σ0) (N:=N) fun n st hn=>h n st (by omega)
   cases hs:sts[N]? with
   | none=>simp only[D7,hs];exact ih
   | some st =>
     rw[DX hs,DX hs]
     cases hg:st.g with
     | some g =>
       rw[h N st (by omega) hs (by simp[hg])]
       cases S' N
       ·simpa using ih
       ·simp[D5,hg]
     | none=>cases S N <;>cases S' N <;>simp[D5,hg,ih]
theorem SD {σ0:AS} {sts:List Ez} {S:Nat→Bool} {k i:Nat} {st:Ez} (hi:sts[i]?=some st) (hS:S i=false) {N:Nat} (hN:i<N) (h:∀ n st',i<n→n<N→sts[n]?=some st'→k∈st'.ups.map (·.1)→k∈st.ups.map (·.1)→S n=false) :
  AG (D7 σ0 sts (fun n=>n==i||S n) N).env k=(OQ st.ups k).getD (AG (D7 σ0 sts S N).env k):=by
 by_cases hk:k∈st.ups.map (·.1)
 ·obtain ⟨s,hs⟩:∃ s,OQ st.ups k=some s:=by
   cases hu:OQ st.ups k with
   | some s=>exact ⟨s,rfl⟩
   | none =>
     exfalso
     have:∀ us:List (Nat × AA),k∈us.map (·.1)→OQ us k≠none:=by
      intro us
      induction us with
      | nil=>simp
      | cons u us ih =>
        obtain ⟨j,t⟩:=u
        intro hm
        simp only[OQ]
        split
        ·simp
        ·rename_i hn
         split
         ·simp
         ·rename_i hj
          simp only[map_cons,mem_cons] at hm
          rcases hm with rfl | hm
          ·exact absurd rfl hj
          ·exact absurd hn (ih hm)
     exact this _ hk hu
  have key:∀ d,i+1+d≤N→AG (D7 σ0 sts (fun n=>n==i||S n) (i+1+d)).env k=s:=by
   intro d
   induction d with
   | zero=>intro _;rw[Nat.add_zero,DX hi];simp[G8,hs]
   | succ d ih =>
     intro hd
     have ih:=ih (by omega)
     rw[← Nat.add_assoc]
     cases hst:sts[i+1+d]? with
     | none=>simp only[D7,hst];exact ih
     | some st' =>
       rw[DX hst]
       by_cases hk':k∈st'.ups.map (·.1)
       ·have:=h (i+1+d) st' (by omega) (by omega) hst hk' hk
        have hne:(i+1+d==i)=false:=by simp;omega
        simp only[this,hne,Bool.or_self,Bool.false_eq_true,if_false];exact ih
       ·split
        ·rw[G8,G3 hk'];exact ih
        ·exact ih
  have:=key (N - (i+1)) (by omega)
  rw[show i+1+(N - (i+1))=N by omega] at this
  rw[this,hs];rfl
 ·rw[G3 hk]
  refine Cm fun n st' _ hn hk' => ?_
  by_cases e:n=i
  ·subst e
   rw[hi] at hn
   exact absurd (Option.some.inj hn ▸ hk') hk
  ·simp[e]
theorem VK {σ0:AS} {sts:List Ez} {S:Nat→Bool} {i:Nat} {st:Ez} (hi:sts[i]?=some st) (hS:S i=false) {N:Nat} (hN:i<N) (h:∀ n st',i<n→n<N→sts[n]?=some st'→st'.g.isSome=true→st.g.isSome=true→S n=false) :
  (D7 σ0 sts (fun n=>n==i||S n) N).g=st.g.getD (D7 σ0 sts S N).g:=by
 cases hg:st.g with
 | some g =>
   have key:∀ d,i+1+d≤N→(D7 σ0 sts (fun n=>n==i||S n) (i+1+d)).g=g:=by
    intro d
    induction d with
    | zero=>intro _;rw[Nat.add_zero,DX hi];simp[D5,hg]
    | succ d ih =>
      intro hd
      have ih:=ih (by omega)
      rw[← Nat.add_assoc]
      cases hst:sts[i+1+d]? with
      | none=>simp only[D7,hst];exact ih
      | some st' =>
        rw[DX hst]
        cases hg':st'.g with
        | some g' =>
          have:=h (i+1+d) st' (by omega) (by omega) hst (by simp[hg']) (by simp[hg])
          have hne:(i+1+d==i)=false:=by simp;omega
          simp only[this,hne,Bool.or_self,Bool.false_eq_true,if_false];exact ih
        | none =>
          split
          ·simp only[D5,hg',Option.getD_none];exact ih
          ·exact ih
   have:=key (N - (i+1)) (by omega)
   rw[show i+1+(N - (i+1))=N by omega] at this
   rw[this];rfl
 | none =>
   simp only[Option.getD_none]
   refine GD fun n st' _ hn hk' => ?_
   by_cases e:n=i
   ·subst e
    rw[hi] at hn
    obtain rfl:=Option.some.inj hn
    simp[hg] at hk'
   ·simp[e]
theorem NZ {env:List (Nat × AA)} {k:Nat}:∀ {us:List (Nat × AA)},Dm k ∉ Nv env us→∀ s,OQ us k=some s→s.skel=(AG env k).skel
 | [],_,s,hs=>by simp[OQ] at hs
 | (j,t)::us,hn,s,hs=>by
   simp only[Nv] at hn
   have ht:Dm k ∉ Nv env us:=fun hm=>hn (by
    split
    ·exact hm
    ·exact mem_cons_of_mem _ hm)
   simp only[OQ] at hs
   split at hs
   ·rename_i s' hs'
    simp only[zS] at hs
    subst hs
    exact NZ ht _ hs'
   ·split at hs
    ·rename_i hj
     subst hj
     simp only[zS] at hs
     subst hs
     cases he:Kz (AG env j) t with
     | true=>exact Rl he
     | false=>rw[he] at hn;simp at hn
    ·simp at hs
theorem Es {E:Av} {callF:Nat→List Aa→Option Dv} {ops:Array Oper} {o:Oper} {σ:AS} {st:Ez} (h:C9 E callF ops o σ=some st):(∀ k∈st.ups.map (·.1),k∈st.writes)∧(st.g.isSome=true→G∈st.writes) ∧
  (∀ k s,Dm k ∉ st.writes→OQ st.ups k=some s→s.skel=(AG σ.env k).skel):=by
 unfold C9 at h
 split at h
 ·simp at h
 ·simp only[zS] at h
  subst h
  refine ⟨fun k hk => ?_,by simp,fun k s hn hs => ?_⟩
  ·unfold AQ at hk;unfold Fo
   cases hd:o.dst <;>simp_all
  ·simp only[AQ,Fo] at hn hs
   cases hd:o.dst with
   | none=>simp[hd,OQ] at hs
   | some d =>
     simp only[hd] at hn hs
     simp only[OQ] at hs
     split at hs
     ·rename_i hdk;subst hdk;simp at hn
     ·simp at hs
 ·split at h
  ·simp at h
  rename_i out u hrun
  split at h
  ·simp only[zS] at h
   subst h
   refine ⟨fun k hk=>by simp only[mem_append];exact .inl (.inl hk),fun hg => ?_,fun k s hn hs => ?_⟩
   ·simp only at hg ⊢
    cases hg':out.g with
    | none=>simp[hg'] at hg
    | some g=>simp
   ·simp only[mem_append] at hn
    exact NZ (fun hm=>hn (.inl (.inr hm))) s hs
  ·simp at h
theorem Xj {σ0:AS} {sts:List Ez} {L:Nat→Bool} {k i N:Nat} (hi:i≤N)
  (hW:∀ m sm s,m<N→sts[m]?=some sm→Dm k ∉ sm.writes→OQ sm.ups k=some s→s.skel=(AG (D7 σ0 sts (fun _=>true) m).env k).skel)
  (hpre:∀ p q sp sq,p<q→q<N→sts[p]?=some sp→sts[q]?=some sq→k∈sp.ups.map (·.1)→k∈sq.ups.map (·.1)→L q=true→L p=true)
  (hkey:∀ m sm,m<N→sts[m]?=some sm→Dm k∈sm.writes→k∈sm.ups.map (·.1)→L m=decide (m<i)) :
  (AG (D7 σ0 sts L N).env k).skel=(AG (D7 σ0 sts (fun _=>true) i).env k).skel:=by
 have hA:∀ M,M≤N→∃ n,n≤M∧∀ m sm,m<M→sts[m]?=some sm→k∈sm.ups.map (·.1)→L m=decide (m<n):=by
  intro M
  induction M with
  | zero=>intro _;exact ⟨0,Nat.le_refl _,fun m sm hm=>by omega⟩
  | succ M ih =>
    intro hM
    obtain ⟨n,hn,h⟩:=ih (by omega)
    by_cases hc:∃ sm,sts[M]?=some sm∧k∈sm.ups.map (·.1)∧L M=true
    ·obtain ⟨sm,h1,h2,h3⟩:=hc
     refine ⟨M+1,Nat.le_refl _,fun m sm' hm hsm' hk' => ?_⟩
     rw[decide_eq_true hm]
     rcases Nat.lt_or_ge m M with h' | h'
     ·exact hpre m M sm' sm h' (by omega) hsm' h1 hk' h2 h3
     ·obtain rfl:m=M:=by omega
      exact h3
    ·refine ⟨n,by omega,fun m sm' hm hsm' hk' => ?_⟩
     rcases Nat.lt_or_ge m M with h' | h'
     ·exact h m sm' h' hsm' hk'
     ·obtain rfl:m=M:=by omega
      rw[decide_eq_false (by omega)]
      cases hL:L m with
      | false=>rfl
      | true=>exact absurd ⟨sm',hsm',hk',hL⟩ hc
 obtain ⟨n,hn,hL⟩:=hA N (Nat.le_refl _)
 have e1:AG (D7 σ0 sts L N).env k=AG (D7 σ0 sts (fun m=>decide (m<n)) N).env k:=Cm fun m sm hm hsm hk=>hL m sm hm hsm hk
 have e2:∀ d,n+d≤N→D7 σ0 sts (fun m=>decide (m<n)) (n+d)=D7 σ0 sts (fun m=>decide (m<n)) n:=by
  intro d
  induction d with
  | zero=>intro _;rfl
  | succ d ihd =>
    intro hd
    rw[← ihd (by omega),← Nat.add_assoc]
    conv=>lhs;unfold D7
    cases sts[n+d]? with
    | none=>rfl
    | some s =>
      have:¬ n+d<n:=by omega
      simp[this]
 have e2:=e2 (N - n) (by omega)
 rw[show n+(N - n)=N by omega] at e2
 have e3:AG (D7 σ0 sts (fun m=>decide (m<n)) n).env k=AG (D7 σ0 sts (fun _=>true) n).env k:=Cm fun m sm hm _ _=>by simp[hm]
 rw[e1,e2,e3]
 have hstep:∀ m,m<N→(∀ sm,sts[m]?=some sm→k∈sm.ups.map (·.1)→Dm k ∉ sm.writes)→(AG (D7 σ0 sts (fun _=>true) (m+1)).env k).skel=(AG (D7 σ0 sts (fun _=>true) m).env k).skel:=by
  intro m hm hno
  cases hs:sts[m]? with
  | none=>simp only[D7,hs]
  | some sm =>
    rw[DX hs,if_pos rfl,G8]
    cases hu:OQ sm.ups k with
    | none=>rfl
    | some s =>
      have hk:k∈sm.ups.map (·.1):=by
       by_cases h:k∈sm.ups.map (·.1)
       ·exact h
       ·rw[G3 h] at hu;simp at hu
      exact hW m sm s hm hs (hno sm hs hk) hu
 have hrange:∀ a d,a+d≤N→(∀ m sm,a≤m→m<a+d→sts[m]?=some sm→k∈sm.ups.map (·.1)→Dm k ∉ sm.writes)→(AG (D7 σ0 sts (fun _=>true) (a+d)).env k).skel=(AG (D7 σ0 sts (fun _=>true) a).env k).skel:=by
  intro a d
  induction d with
  | zero=>intro _ _;rfl
  | succ d ih =>
    intro hd h
    rw[← Nat.add_assoc,hstep (a+d) (by omega) fun sm hs hk=>h (a+d) sm (by omega) (by omega) hs hk]
    exact ih (by omega) fun m sm h1 h2=>h m sm h1 (by omega)
 rcases Nat.le_total n i with h | h
 ·have:=hrange n (i - n) (by omega) fun m sm h1 h2 hs hk hm=>by
   have q1:=hkey m sm (by omega) hs hm hk
   have q2:=hL m sm (by omega) hs hk
   rw[decide_eq_true (by omega)] at q1
   rw[decide_eq_false (by omega)] at q2
   rw[q1] at q2;simp at q2
  rw[show n+(i - n)=i by omega] at this
  exact this.symm
 ·have:=hrange i (n - i) (by omega) fun m sm h1 h2 hs hk hm=>by
   have q1:=hkey m sm (by omega) hs hm hk
   have q2:=hL m sm (by omega) hs hk
   rw[decide_eq_false (by omega)] at q1
   rw[decide_eq_true (by omega)] at q2
   rw[q1] at q2;simp at q2
  rw[show i+(n - i)=n by omega] at this
  exact this
theorem HJ {xs ys:List Nat} {k:Nat} (h1:k∈xs) (h2:k∈ys):Eb xs ys=true:=by
 unfold Eb
 rw[any_eq_true]
 exact ⟨k,h1,by rw[any_eq_true];exact ⟨k,h2,by simp⟩⟩
theorem MF {before:Array Nat} {j:Nat}:∀ {dn:List (List Nat × List Nat)} {i:Nat} {f w:List Nat},EI.go before j i dn f w=true→∀ m f' w',dn[m]?=some (f',w') →
  (Eb w' f||Eb w' w||Eb f' w)=true→(before.getD j 0).testBit (i+m)=true
 | [],_,_,_,_,m,_,_,h,_=>by simp at h
 | (f0,w0)::dn,i,f,w,h,m,f',w',hm,hc=>by
   simp only[EI.go,zB] at h
   cases m with
   | zero =>
     simp only[List.getElem?_cons_zero,zS,zP] at hm
     obtain ⟨rfl,rfl⟩:=hm
     have:=h.1
     rw[hc] at this
     simpa using this
   | succ m =>
     have:=MF h.2 m f' w' (by simpa using hm) hc
     rw[show i+(m+1)=i+1+m by omega];exact this
theorem JQ {before:Array Nat}:∀ {rest dn:List (List Nat × List Nat)} {j:Nat},EI before j dn rest=true→dn.length=j→∀ p q f' w' f w,p<q→j≤q→(dn++rest)[p]?=some (f',w')→(dn++rest)[q]?=some (f,w) →
  (Eb w' f||Eb w' w||Eb f' w)=true→(before.getD q 0).testBit p=true
 | [],dn,j,_,hl,p,q,f',w',f,w,_,hq,_,h,_=>by
   rw[append_nil,List.getElem?_eq_none (by omega)] at h;simp at h
 | (f0,w0)::rest,dn,j,h,hl,p,q,f',w',f,w,hpq,hq,hp,hqe,hc=>by
   simp only[EI,zB] at h
   rcases Nat.eq_or_lt_of_le hq with rfl | hq
   ·rw[List.getElem?_append_right (by omega),hl,Nat.sub_self] at hqe
    simp only[List.getElem?_cons_zero,zS,zP] at hqe
    obtain ⟨rfl,rfl⟩:=hqe
    rw[List.getElem?_append_left (by omega)] at hp
    have:=MF h.1 p f' w' hp hc
    simpa using this
   ·have:=JQ (dn:=dn++[(f0,w0)]) h.2 (by simp[hl]) p q f' w' f w hpq (by omega)
    rw[append_assoc] at this
    exact this hp hqe hc
def O7 (acc:Array Nat) (o:Oper):Nat:=o.after.foldl (fun s e=>if Region.binds .any e then s ||| 2 ^ e.on ||| acc.getD e.on 0 else s) 0
def bf (l:List Oper):Array Nat:=l.foldl (fun acc o=>acc.push (O7 acc o)) #[]
theorem Vn (ops:Array Oper):Region.before ops=bf ops.toList:=by
 unfold Region.before bf
 rw[← Array.foldl_toList];rfl
theorem ZA (l:List Oper) (o:Oper):bf (l++[o])=(bf l).push (O7 (bf l) o):=by simp[bf]
theorem R7 (l:List Oper):∀ acc:Array Nat,(l.foldl (fun acc o=>acc.push (O7 acc o)) acc).size=acc.size+l.length:=by
 induction l with
 | nil=>simp
 | cons o l ih=>intro acc;rw[foldl_cons,ih];simp;omega
theorem I4 (l:List Oper):(bf l).size=l.length:=by unfold bf;rw[R7];simp
theorem U7 (A:Array Nat) (v:Nat) (i:Nat) (h:i<A.size):(A.push v).getD i 0=A.getD i 0:=by
 rw[Array.getD_eq_getD_getElem?,Array.getD_eq_getD_getElem?,Array.getElem?_push,if_neg (by omega)]
theorem L0 (l:List Oper):∀ (acc:Array Nat) (i:Nat),i<acc.size→(l.foldl (fun acc o=>acc.push (O7 acc o)) acc).getD i 0=acc.getD i 0:=by
 induction l with
 | nil=>intro _ _ _;rfl
 | cons o l ih =>
   intro acc i hi
   rw[foldl_cons,ih _ _ (by simp;omega),U7 _ _ _ hi]
theorem PR (l l':List Oper):bf (l++l')=l'.foldl (fun acc o=>acc.push (O7 acc o)) (bf l):=by unfold bf;rw[List.foldl_append]
theorem eV {l:List Oper} {j:Nat} {o:Oper} (h:l[j]?=some o):(bf l).getD j 0=O7 (bf (l.take j)) o:=by
 have hj:j<l.length:=(List.getElem?_eq_some_iff.1 h).1
 have hl:l=l.take j++([o]++l.drop (j+1)):=DD h
 have:bf l=(l.drop (j+1)).foldl (fun acc o=>acc.push (O7 acc o)) (bf (l.take j++[o])):=by
  rw[← PR,append_assoc];exact congrArg bf hl
 have hs:(bf (l.take j)).size=j:=by rw[I4,length_take];omega
 rw[this,L0 _ _ _ (by rw[I4];simp;omega),ZA]
 rw[Array.getD_eq_getD_getElem?,Array.getElem?_push,if_pos hs.symm];rfl
theorem ZQ {l:List Oper} {j i:Nat}:(bf (l.take j)).getD i 0=if i<j then (bf l).getD i 0 else 0:=by
 by_cases hi:i<(l.take j).length
 ·have h1:i<j∧i<l.length:=by rw[length_take] at hi;omega
  rw[if_pos h1.1]
  have:bf l=(l.drop j).foldl (fun acc o=>acc.push (O7 acc o)) (bf (l.take j)):=by
   rw[← PR,take_append_drop]
  rw[this,L0 _ _ _ (by rw[I4];exact hi)]
 ·have hz:(bf (l.take j)).getD i 0=0:=by
   rw[Array.getD_eq_getD_getElem?,Array.getElem?_eq_none (by rw[I4];omega)];rfl
  rw[hz]
  split
  ·rename_i hij
   have:l.length≤i:=by rw[length_take] at hi;omega
   rw[Array.getD_eq_getD_getElem?,Array.getElem?_eq_none (by rw[I4];omega)];rfl
  ·rfl
theorem XA {acc:Array Nat} {o:Oper} {b:Nat} (h:(O7 acc o).testBit b=true):∃ e∈o.after,Region.binds .any e=true∧(b=e.on∨(acc.getD e.on 0).testBit b=true):=by
 unfold O7 at h
 rw[← Array.foldl_toList] at h
 have key:∀ (l:List Edge) (s:Nat),(l.foldl (fun s e=>if Region.binds .any e then s ||| 2 ^ e.on ||| acc.getD e.on 0 else s) s).testBit b=true →
   s.testBit b=true∨∃ e∈l,Region.binds .any e=true∧(b=e.on∨(acc.getD e.on 0).testBit b=true):=by
  intro l
  induction l with
  | nil=>intro s hs;exact .inl hs
  | cons e l ih =>
    intro s hs
    rw[foldl_cons] at hs
    rcases ih _ hs with h1 | ⟨e',he',h1⟩
    ·split at h1
     ·rename_i hb
      rw[Nat.testBit_or,Nat.testBit_or,Nat.testBit_two_pow] at h1
      simp only[Bool.or_eq_true,decide_eq_true_eq] at h1
      rcases h1 with (h1 | h1) | h1
      ·exact .inl h1
      ·exact .inr ⟨e,by simp,hb,.inl h1.symm⟩
      ·exact .inr ⟨e,by simp,hb,.inr h1⟩
     ·exact .inl h1
    ·exact .inr ⟨e',mem_cons_of_mem _ he',h1⟩
 rcases key _ _ h with h1 | ⟨e,he,h1⟩
 ·simp at h1
 ·exact ⟨e,by simpa using he,h1⟩
theorem R1 {ops:Array Oper} {j b:Nat} (h:((Region.before ops).getD j 0).testBit b=true) :
  ∃ o,ops[j]?=some o∧∃ e∈o.after,Region.binds .any e=true∧(b=e.on∨((Region.before ops).getD e.on 0).testBit b=true):=by
 rw[Vn] at h ⊢
 cases ho:ops[j]? with
 | none =>
   have:ops.size≤j:=by
    rcases Nat.lt_or_ge j ops.size with h' | h'
    ·rw[Array.getElem?_eq_getElem h'] at ho;simp at ho
    ·exact h'
   rw[Array.getD_eq_getD_getElem?,Array.getElem?_eq_none (by rw[I4];simpa using this)] at h
   simp at h
 | some o =>
   have ho':ops.toList[j]?=some o:=by simpa using ho
   rw[eV ho'] at h
   obtain ⟨e,he,hb,h1⟩:=XA h
   refine ⟨o,rfl,e,he,hb,?_⟩
   rcases h1 with h1 | h1
   ·exact .inl h1
   ·rw[ZQ] at h1
    split at h1
    ·exact .inr h1
    ·simp at h1
section
variable {C:Cs} {w w':World} {a a':Act} {σ τ:AS} {Lt Lt':Nat→Nat→Prop} {cv cv':Nat→Value} {fp fpU:Nat→Fp} {g g' n:Nat} {env env':List (Nat × AA)} {o:Oper} {Fz Fz':Nat→Prop}
variable {callF:Nat→List Aa→Option Dv} {ops:Array Oper} {Q:Exit→Act→World→Prop}
def iY (σ τ:AS):Prop:=(∀ k,AG σ.env k=AG τ.env k)∧σ.g=τ.g
theorem Kx.same (h:Kx C n w a τ) (hs:iY σ τ):Kx C n w a σ:=by
 obtain ⟨h1,h2⟩:=h
 exact ⟨by cases σ;exact h1.congr hs.1 hs.2,h2⟩
theorem Rw (sts:List Ez) (hstep:∀ (i:Nat) o,ops[i]?=some o→∃ st,sts[i]?=some st∧C9 C.E callF ops o (D7 σ sts (fun _=>true) i)=some st)
  (hok:Mx n (C.fx.map (·.1)) ops=true) (hE:Cx C.P C.E) (hF:∀ f,J2 C.P callF f) (hQ:∀ a' w',Kx C n w' a' (D7 σ sts (fun _=>true) ops.size)→Q .normal a' w') :
  ∀ d m a w,m+d=ops.size→Kx C n w a (D7 σ sts (fun _=>true) m)→wpOps C.P ops Q (List.range' m d) a w:=by
 intro d
 induction d with
 | zero =>
   intro m a w hm hs
   simp only[List.range'_zero,wpOps]
   obtain rfl:m=ops.size:=by omega
   exact hQ a w hs
 | succ d ih =>
   intro m a w hm hs
   rw[List.range'_succ,wpOps_cons]
   have hlt:m<ops.size:=by omega
   obtain ⟨st,h1,h2⟩:=hstep m _ (Array.getElem?_eq_getElem hlt)
   refine Pl (Array.getElem?_eq_getElem hlt) hs hok hE hF h2 fun a' w' hs'=>ih (m+1) a' w' (by omega) ?_
   rw[DX h1]
   exact hs'
structure iw (C:Cs) (n:Nat) (ops:Array Oper) (σ:AS) (sts:List Ez) (listed:Array Bool) (w:World) (a:Act):Prop where
 size:listed.size=ops.size
 closed:∀ j,listed.getD j false=true→∀ b,((Region.before ops).getD j 0).testBit b=true→listed.getD b false=true
 st:Kx C n w a (D7 σ sts (fun j=>listed.getD j false) ops.size)
theorem TL (A:Array Bool) (i j:Nat) (hi:i<A.size):(A.setIfInBounds i true).getD j false=(j==i||A.getD j false):=by
 rw[Array.getD_eq_getD_getElem?,Array.getD_eq_getD_getElem?,Array.getElem?_setIfInBounds]
 by_cases h:i=j
 ·subst h;simp[hi]
 ·have:(j==i)=false:=by simp;omega
  simp[h,this]
theorem count_set (A:Array Bool) (i:Nat) (hi:i<A.size) (h:A.getD i true=false):A.toList.count false=(A.setIfInBounds i true).toList.count false+1:=by
 rw[Array.toList_setIfInBounds]
 have hi':i<A.toList.length:=by simpa using hi
 have hv:A.toList[i]=false:=by
  rw[Array.getD_eq_getD_getElem?,Array.getElem?_eq_getElem hi] at h
  simpa using h
 have hpos:0<A.toList.count false:=List.count_pos_iff.2 (hv ▸ List.getElem_mem hi')
 have hc:=List.count_set (b:=false) (a:=true) hi'
 rw[hv] at hc
 rw[hc]
 have e1:(if (false==false)=true then 1 else 0)=1:=rfl
 have e2:(if (true==false)=true then 1 else 0)=0:=rfl
 rw[e1,e2]
 omega
theorem Tp (sts:List Ez) (hlen:sts.length=ops.size) (hstep:∀ (i:Nat) o,ops[i]?=some o→∃ st,sts[i]?=some st∧C9 C.E callF ops o (D7 σ sts (fun _=>true) i)=some st)
  (hrace:EI (Region.before ops) 0 [] (sts.map fun st=>(st.foot,st.writes))=true)
  (hok:Mx n (C.fx.map (·.1)) ops=true) (hE:Cx C.P C.E) (hF:∀ f,J2 C.P callF f) (hQ:∀ a' w',Kx C n w' a' (D7 σ sts (fun _=>true) ops.size)→Q .normal a' w') :
  ∀ fuel listed a w,listed.toList.count false=fuel→iw C n ops σ sts listed w a→wpAny C.P .any ops Q fuel listed a w:=by
 have hall:∀ listed a w,iw C n ops σ sts listed w a→(∀ j,j<ops.size→listed.getD j false=true)→Q .normal a w:=by
  intro listed a w hA hl
  refine hQ a w ?_
  refine hA.st.same ⟨fun k=>Cm fun m st hm hst _=>(hl m hm).symm,GD fun m st hm hst _=>(hl m hm).symm⟩
 have hrace':∀ p q sp sq,p<q→sts[p]?=some sp→sts[q]?=some sq→(Eb sp.writes sq.foot||Eb sp.writes sq.writes||Eb sp.foot sq.writes)=true→((Region.before ops).getD q 0).testBit p=true:=by
  intro p q sp sq hpq hp hq hc
  exact JQ hrace rfl p q sp.foot sp.writes sq.foot sq.writes hpq (by omega) (by simp[hp]) (by simp[hq]) hc
 intro fuel
 induction fuel with
 | zero =>
   intro listed a w hcnt hA
   have hl:∀ j,j<ops.size→listed.getD j false=true:=by
    intro j hj
    have hj':j<listed.size:=by rw[hA.size];exact hj
    have:listed.toList[j]∈listed.toList:=List.getElem_mem _
    cases hv:listed.toList[j]'(by simpa using hj') with
    | true=>rw[Array.getD_eq_getD_getElem?,Array.getElem?_eq_getElem hj'];simpa using hv
    | false=>rw[hv] at this;exact absurd hcnt (by have:=List.count_pos_iff.2 this;omega)
   refine ⟨?_,hall listed a w hA hl⟩
   rw[List.eq_nil_iff_forall_not_mem]
   intro j hj
   obtain ⟨h0,o,ho,-⟩:=mem_ready.1 hj
   have hj' :=(Array.getElem?_eq_some_iff.1 ho).1
   have:=hl j hj'
   rw[Array.getD_eq_getD_getElem?,Array.getElem?_eq_getElem (by rw[hA.size];exact hj')] at this h0
   simp at this h0
   rw[this] at h0;simp at h0
 | succ fuel ih =>
   intro listed a w hcnt hA
   refine ⟨fun hr=>hall listed a w hA fun j => ?_,fun i hi => ?_⟩
   ·induction j using Nat.strongRecOn with
    | _ j jh =>
      intro hj
      cases hv:listed.getD j false with
      | true=>rfl
      | false =>
        exfalso
        have:j∈Region.ready .any ops listed:=by
         rw[mem_ready]
         refine ⟨?_,ops[j],Array.getElem?_eq_getElem hj,fun e he hb => ?_⟩
         ·rw[Array.getD_eq_getD_getElem?,Array.getElem?_eq_getElem (by rw[hA.size];exact hj)] at hv ⊢
          simpa using hv
         ·have:=(J4 hok (Array.getElem?_eq_getElem hj)).2.2 e he hb
          exact jh e.on this (by omega)
        rw[hr] at this;simp at this
   ·obtain ⟨h0,o,ho,hafter⟩:=mem_ready.1 hi
    have hlt:=(Array.getElem?_eq_some_iff.1 ho).1
    have hil:i<listed.size:=by rw[hA.size];exact hlt
    have hnot:listed.getD i false=false:=by
     rw[Array.getD_eq_getD_getElem?,Array.getElem?_eq_getElem hil] at h0 ⊢
     simpa using h0
    obtain ⟨st,hst,hstep0⟩:=hstep i o ho
    obtain ⟨hw1,hw2,-⟩:=Es hstep0
    have hwr:∀ (m:Nat) sm,sts[m]?=some sm→(∀ k∈sm.ups.map (·.1),k∈sm.writes)∧(sm.g.isSome=true→G∈sm.writes):=by
     intro m sm hm
     have hml:m<ops.size:=by rw[← hlen];exact (List.getElem?_eq_some_iff.1 hm).1
     obtain ⟨sm',h1,h2⟩:=hstep m _ (Array.getElem?_eq_getElem hml)
     rw[hm] at h1
     obtain rfl:=Option.some.inj h1
     exact ⟨(Es h2).1,(Es h2).2.1⟩
    have hpre:∀ b,((Region.before ops).getD i 0).testBit b=true→listed.getD b false=true:=by
     intro b hb
     obtain ⟨o',ho',e,he,hbd,h1⟩:=R1 hb
     rw[ho] at ho'
     obtain rfl:=Option.some.inj ho'
     have hl:=hafter e he hbd
     rcases h1 with rfl | h1
     ·exact hl
     ·exact hA.closed _ hl b h1
    have key:∀ m sm,m<ops.size→sts[m]?=some sm→(Eb st.foot sm.writes=true)→listed.getD m false=decide (m<i):=by
     intro m sm hm hsm hc
     rcases Nat.lt_trichotomy m i with h | h | h
     ·rw[decide_eq_true h]
      refine hpre m (hrace' m i sm st h hsm hst ?_)
      have:Eb sm.writes st.foot=true:=by
       unfold Eb at hc ⊢
       simp only[any_eq_true,beq_iff_eq] at hc ⊢
       obtain ⟨x,hx,y,hy,e⟩:=hc
       exact ⟨y,hy,x,hx,e.symm⟩
      simp[this]
     ·subst h
      rw[hnot];simp
     ·rw[decide_eq_false (by omega)]
      cases hv:listed.getD m false with
      | false=>rfl
      | true =>
        have:=hA.closed m hv i (hrace' i m st sm h hst hsm (by simp[hc]))
        rw[hnot] at this;simp at this
    have hprefix:∀ k,AG (D7 σ sts (fun j=>decide (j<i)) ops.size).env k=AG (D7 σ sts (fun _=>true) i).env k∧(D7 σ sts (fun j=>decide (j<i)) ops.size).g=(D7 σ sts (fun _=>true) i).g:=by
     intro k
     have h1:∀ d,i+d≤ops.size→D7 σ sts (fun j=>decide (j<i)) (i+d)=D7 σ sts (fun j=>decide (j<i)) i:=by
      intro d
      induction d with
      | zero=>intro _;rfl
      | succ d ihd =>
        intro hd
        rw[← ihd (by omega),← Nat.add_assoc]
        conv=>lhs;unfold D7
        cases sts[i+d]? with
        | none=>rfl
        | some s =>
          have:¬ i+d<i:=by omega
          simp[this]
     have h2:=h1 (ops.size - i) (by omega)
     rw[show i+(ops.size - i)=ops.size by omega] at h2
     rw[h2]
     exact ⟨Cm fun m sm hm _ _=>by simp[hm],GD fun m sm hm _ _=>by simp[hm]⟩
    obtain ⟨st',hst',hsu,hsg⟩:∃ st',C9 C.E callF ops o (D7 σ sts (fun j=>listed.getD j false) ops.size)=some st'∧st'.ups=st.ups∧st'.g=st.g:=by
     refine QL hstep0 (fun k hk => ?_) (fun k hk => ?_) (fun hG => ?_)
     ·rw[← (hprefix k).1]
      exact Cm fun m sm hm hsm hk'=>key m sm hm hsm (HJ hk ((hwr m sm hsm).1 k hk'))
     ·refine Xj (by omega) (fun m sm s hm hsm hn hs => ?_) (fun p q sp sq hpq hq hsp hsq h1 h2 hl => ?_) (fun m sm hm hsm hn _=>key m sm hm hsm (HJ hk hn))
      ·obtain ⟨sm',g1,g2⟩:=hstep m _ (Array.getElem?_eq_getElem hm)
       rw[hsm] at g1
       obtain rfl:=Option.some.inj g1
       exact (Es g2).2.2 k s hn hs
      ·refine hA.closed q hl p (hrace' p q sp sq hpq hsp hsq ?_)
       simp[HJ ((hwr p sp hsp).1 k h1) ((hwr q sq hsq).1 k h2)]
     ·rw[← (hprefix 0).2]
      exact GD fun m sm hm hsm hg=>key m sm hm hsm (HJ hG ((hwr m sm hsm).2 hg))
    have hlater:∀ m sm,i<m→m<ops.size→sts[m]?=some sm→Eb st.writes sm.writes=true→listed.getD m false=false:=by
     intro m sm him hm hsm hc
     cases hv:listed.getD m false with
     | false=>rfl
     | true =>
       have:=hA.closed m hv i (hrace' i m st sm him hst hsm (by simp[hc]))
       rw[hnot] at this;simp at this
    refine Pl ho hA.st hok hE hF hst' fun a' w' hs' => ?_
    rw[hsu,hsg] at hs'
    refine ih _ a' w' ?_ ⟨?_,?_,?_⟩
    ·have:=count_set listed i hil h0
     omega
    ·rw[Array.size_setIfInBounds];exact hA.size
    ·intro j hj b hb
     rw[TL _ _ _ hil] at hj ⊢
     simp only[Bool.or_eq_true,beq_iff_eq] at hj ⊢
     rcases hj with rfl | hj
     ·exact .inr (hpre b hb)
     ·exact .inr (hA.closed j hj b hb)
    ·have e:(fun j=>(listed.setIfInBounds i true).getD j false)=fun j=>j==i||listed.getD j false:=funext fun j=>TL _ _ _ hil
     rw[e]
     refine hs'.same ⟨fun k => ?_,?_⟩
     ·rw[SD hst hnot hlt fun m sm h1 h2 h3 h4 h5=>hlater m sm h1 h2 h3 (HJ (hw1 k h5) ((hwr m sm h3).1 k h4))]
      exact (K9 _ _ _).symm
     ·rw[VK hst hnot hlt fun m sm h1 h2 h3 h4 h5=>hlater m sm h1 h2 h3 (HJ (hw2 h5) ((hwr m sm h3).2 h4))]
theorem Kx.drew (h:Kx C n w a σ):Kx C n w.drew a σ:=by
 obtain ⟨⟨h1,Lt,cv,fp,h2⟩,h3⟩:=h
 exact ⟨⟨h1,Lt,cv,fp,h2.quiet (Ay.refl w _).drew⟩,h3⟩
theorem Vs {id:Nat} {draw:Bool} {fs:List (List Nat × List Nat)} (hm:C.P.follows .mixedOrders=true) (h:IP C.E callF ops ops.toList σ=some (τ,fs)) (hr:(!draw||EI (Region.before ops) 0 [] fs)=true)
  (hok:Mx n (C.fx.map (·.1)) ops=true) (hE:Cx C.P C.E) (hF:∀ f,J2 C.P callF f) (hs:Kx C n w a σ) (hQ:∀ a' w',Kx C n w' a' τ→Q .normal a' w'):(Code.region id ops draw).wp C.P Q a w:=by
 obtain ⟨sts,rfl,hlen,hstep,rfl⟩:=KT h
 have hlen':sts.length=ops.size:=by rw[hlen];simp
 have hstep':∀ (i:Nat) o,ops[i]?=some o→∃ st,sts[i]?=some st∧C9 C.E callF ops o (D7 σ sts (fun _=>true) i)=some st:=fun i o ho=>hstep i o (by simpa using ho)
 have hQ':∀ a' w',Kx C n w' a' (D7 σ sts (fun _=>true) ops.size)→Q .normal a' w' :=fun a' w' h'=>hQ a' w' (by simpa using h')
 cases draw with
 | false =>
   refine wp_region ?_
   rw[List.range_eq_range']
   exact Rw sts hstep' hok hE hF hQ' ops.size 0 a w (by omega) hs
 | true =>
   refine wp_region_any hm ?_
   refine Tp sts hlen' hstep' (by simpa using hr) hok hE hF hQ' _ _ a _ (by simp) ⟨by simp,fun j hj => ?_,?_⟩
   ·exfalso
    rw[Array.getD_eq_getD_getElem?,Array.getElem?_replicate] at hj
    split at hj <;>simp at hj
   ·have e:∀ N,D7 σ sts (fun j=>(Array.replicate ops.size false).getD j false) N=σ:=by
     intro N
     induction N with
     | zero=>rfl
     | succ N ih =>
       have hf:(Array.replicate ops.size false).getD N false=false:=by
        rw[Array.getD_eq_getD_getElem?,Array.getElem?_replicate];split <;>rfl
       unfold D7
       cases sts[N]? with
       | none=>exact ih
       | some st=>simp only[hf,Bool.false_eq_true,if_false];exact ih
    rw[e]
    exact hs.drew
end
section
variable {C:Cs} {w w':World} {a a':Act} {σ τ:AS} {Lt Lt':Nat→Nat→Prop} {cv cv':Nat→Value} {fp fpU:Nat→Fp} {g g' n:Nat} {env env':List (Nat × AA)} {o:Oper} {Fz Fz':Nat→Prop}
theorem U2 (F:Nat→AA):∀ (ks:List Nat) (k:Nat),AG (ks.map fun k=>(k,F k)) k=if k∈ks then F k else .dead
 | [],k=>by simp[AG]
 | j::ks,k=>by
   simp only[map_cons,AG,U2 F ks k,mem_cons]
   by_cases h:j=k
   ·subst h;simp
   ·have:¬ k=j:=fun e=>h e.symm
    simp[h,this]
theorem IM (env:List (Nat × AA)) (keep:List Nat) (s:AA):(s.settle env keep).root=s.root.map (fun x=>(x.1,x.2.1,[])):=by
 cases s with
 | view k pl =>
   simp only[AA.settle]
   split
   ·split
    ·rfl
    ·split <;>rfl
   ·rfl
 | ptr k pl =>
   simp only[AA.settle]
   split
   ·split
    ·rfl
    ·split <;>rfl
   ·rfl
 | clo f caps =>
   simp only[AA.settle]
   split <;>rfl
 | _=>rfl
theorem Id {env:List (Nat × AA)} {keep:List Nat} {s:AA} {v:Value} {vs:List Value} {b:Option (Nat × Nat)} (h:Au w v s vs b):Au w v (s.settle env keep) vs b:=by
 cases s <;>first | exact h | exact h.elim
theorem UG {ps:List Pm} {c:Nat} {el:List Pm} (h:ps[c]?=some (.sl .own el)):noOwns ps=false:=by
 induction ps generalizing c with
 | nil=>simp at h
 | cons p ps ih =>
   cases c with
   | zero =>
     simp only[List.getElem?_cons_zero,zS] at h
     subst h;simp[noOwns,Pm.noOwn]
   | succ c=>simp[noOwns,ih (by simpa using h)]
theorem SC {v u:Value} {s:AA} {pl:AX} {p:List Pm} {cs:List T} {d:Do} (h:RO w v s pl u) (hr:s.root=some (p,cs,d)) (hs:CR d pl=false) (keep:List Nat) (env:List (Nat × AA)):AN (s.settle env keep):=by
 obtain ⟨vs0,base0,el,rv,b,o,h1,h2,h3⟩:=h p cs d hr hs
 cases s with
 | val ag p' cs' d' pin =>
   simp only[AA.root,zS,zP] at hr
   obtain ⟨rfl,rfl,rfl⟩:=hr
   simp only[AA.settle,AN]
   obtain ⟨-,rfl⟩:=h1
   cases hp:pl.path with
   | nil=>rw[hp] at h2;simp[CA] at h2
   | cons ec path =>
     rw[hp] at h2
     obtain ⟨e,c⟩:=ec
     simp only[CA] at h2
     split at h2
     ·rename_i hc;exact UG hc
     ·simp at h2
 | box=>trivial
 | _=>simp[AA.root] at hr
def kept (keep:List Nat):List Nat:=keep.filter fun k=>Nat.blt k 1000000
theorem G4 {keep:List Nat} {k:Nat}:k∈kept keep↔k∈keep∧k<1000000:=by
 unfold kept;rw[List.mem_filter];simp
theorem Cl (keep:List Nat) (σ:AS) (k:Nat):AG (settle0 keep σ).env k=if k∈kept keep then (AG σ.env k).settle σ.env keep else .dead:=U2 _ _ _
theorem KR (keep:List Nat):∀ {caps:List (Nat × AX)} {vs:List Value},Du w cv σ.env caps vs→(∀ c∈caps,c.1∈kept keep∧∃ p cs d,(AG σ.env c.1).root=some (p,cs,d)∧CR d c.2=false) →
  Du w cv (settle0 keep σ).env caps vs
 | [],[],_,_=>trivial
 | [],_::_,h,_=>h.elim
 | _::_,[],h,_=>h.elim
 | c::caps,v::vs,h,hc=>by
   refine ⟨?_,KR keep h.2 fun c' hc'=>hc c' (mem_cons_of_mem _ hc')⟩
   obtain ⟨hk,p,cs,d,hr,hs⟩:=hc c (by simp)
   rw[Cl,if_pos hk]
   intro p' cs' d' hr' hs'
   rw[IM,hr] at hr'
   simp only[Option.map_some,zS,zP] at hr'
   obtain ⟨rfl,rfl,rfl⟩:=hr'
   obtain ⟨vs0,base0,el,rv,b,o,h1,h2,h3⟩:=h.1 p cs d hr hs
   exact ⟨vs0,base0,el,rv,b,o,Id h1,h2,h3⟩
theorem Pz (h:C1 C w a σ Lt cv fp) (keep:List Nat):∃ Lt' fp',C1 C w a (settle0 keep σ) Lt' cv fp' :=by
 have hR:∃ Lt',(∀ b j,Lt' b j→Lt b j)∧∀ k∈kept keep,∀ ps ts vs f,((AG σ.env k).settle σ.env keep).lentFree=noLents ps→R w C.Fz Lt σ.g ps ts vs f→R w C.Fz Lt' (settle0 keep σ).g ps ts vs f:=by
  by_cases hl:((kept keep).map fun k=>(k,(AG σ.env k).settle σ.env keep)).all (fun x=>x.2.lentFree)=true
  ·have hg:(settle0 keep σ).g=0:=by
    show (if ((kept keep).map fun k=>(k,(AG σ.env k).settle σ.env keep)).all (fun x=>x.2.lentFree)=true then 0 else σ.g)=0
    rw[if_pos hl]
   rw[hg]
   refine ⟨noLt,fun _ _ h=>h.elim,fun k hk ps ts vs f e hR => ?_⟩
   rw[all_eq_true] at hl
   have:=hl _ (mem_map.2 ⟨k,hk,rfl⟩)
   exact hR.noLent (e ▸ this) (fun _ _ _ _=>id)
  ·have hg:(settle0 keep σ).g=σ.g:=by
    show (if ((kept keep).map fun k=>(k,(AG σ.env k).settle σ.env keep)).all (fun x=>x.2.lentFree)=true then 0 else σ.g)=σ.g
    rw[if_neg hl]
   rw[hg]
   exact ⟨Lt,fun _ _ h=>h,fun _ _ _ _ _ _ _ h=>h⟩
 obtain ⟨Lt',hLt,hR⟩:=hR
 have hlk:∀ j,∀ k∈(AG (settle0 keep σ).env j).looks,k<1000000∧AN (AG (settle0 keep σ).env k):=by
  intro j k hk
  rw[Cl] at hk
  by_cases hj:j∈kept keep
  ·rw[if_pos hj] at hk
   have hl:=h.looks j
   have hs:=h.slots j
   cases hg:AG σ.env j with
   | view k' pl =>
     rw[hg] at hk hl hs
     simp only[AA.settle] at hk
     split at hk
     ·rename_i hkk
      split at hk
      ·simp[AA.looks] at hk
      ·rename_i p cs d hroot
       split at hk
       ·simp[AA.looks] at hk
       ·rename_i hst
        simp only[AA.looks,mem_singleton] at hk hl
        subst hk
        have hk0:=(hl k rfl).1
        refine ⟨hk0,?_⟩
        rw[Cl,if_pos (G4.2 ⟨by simpa using hkk,hk0⟩)]
        simp only[Bool.or_eq_true,not_or,Bool.not_eq_true] at hst
        cases hs':AG σ.env k with
        | val ag p' cs' d' pin =>
          rw[hs'] at hroot
          simp only[AA.root,zS,zP] at hroot
          obtain ⟨rfl,-,-⟩:=hroot
          exact hst.2
        | box=>trivial
        | _=>rw[hs'] at hroot;simp[AA.root] at hroot
     ·simp[AA.looks] at hk
   | ptr k' pl =>
     rw[hg] at hk hl hs
     simp only[AA.settle] at hk
     split at hk
     ·rename_i hkk
      split at hk
      ·simp[AA.looks] at hk
      ·rename_i p cs d hroot
       split at hk
       ·simp[AA.looks] at hk
       ·rename_i hst
        simp only[AA.looks,mem_singleton] at hk hl
        subst hk
        have hk0:=(hl k rfl).1
        refine ⟨hk0,?_⟩
        rw[Cl,if_pos (G4.2 ⟨by simpa using hkk,hk0⟩)]
        exact SC hs.2 hroot (by simpa using hst) _ _
     ·simp[AA.looks] at hk
   | clo f caps =>
     rw[hg] at hk hl hs
     simp only[AA.settle] at hk
     split at hk
     ·rename_i hall
      simp only[AA.looks] at hk hl
      obtain ⟨c,hc,rfl⟩:=mem_map.1 hk
      have hk0:=(hl c.1 hk).1
      refine ⟨hk0,?_⟩
      rw[all_eq_true] at hall
      have hc' :=hall c hc
      simp only[zB] at hc'
      obtain ⟨h1,h2⟩:=hc'
      rw[Cl,if_pos (G4.2 ⟨by simpa using h1,hk0⟩)]
      split at h2
      ·simp at h2
      ·rename_i p cs d hroot
       obtain ⟨-,vs,-,hcr⟩:=hs
       have:∀ {caps:List (Nat × AX)} {vs:List Value},Du w cv σ.env caps vs→c∈caps→∃ v,RO w (cv c.1) (AG σ.env c.1) c.2 v:=by
        intro caps
        induction caps with
        | nil=>intro vs _ hm;simp at hm
        | cons c0 caps ih =>
          intro vs hcr hm
          cases vs with
          | nil=>exact hcr.elim
          | cons v vs =>
            rw[mem_cons] at hm
            rcases hm with rfl | hm
            ·exact ⟨v,hcr.1⟩
            ·exact ih hcr.2 hm
       obtain ⟨v,hv⟩:=this hcr hc
       exact SC hv hroot (by simpa using h2) _ _
     ·simp[AA.looks] at hk
   | _=>rw[hg] at hk;simp[AA.settle,AA.looks] at hk
  ·rw[if_neg hj] at hk;simp[AA.looks] at hk
 refine ⟨Lt',fun k=>if k∈kept keep then fp k else [],⟨h.tmps,fun k => ?_,fun k => ?_,fun j k hjk x hx y hy => ?_,fun k f hf => ?_,fun b j hb=>h.lt b j (hLt b j hb),hlk,h.fz,h.ext,h.size⟩⟩
 ·by_cases hk:k∈kept keep
  ·have hs:=h.slots k
   have hgk:AG (settle0 keep σ).env k=(AG σ.env k).settle σ.env keep:=by rw[Cl,if_pos hk]
   have hRk:=hR k hk
   have hlk0:=h.looks k
   rw[hgk]
   simp only[if_pos hk]
   cases hg:AG σ.env k with
   | dead=>rw[hg] at hs;exact hs
   | gone=>rw[hg] at hs;exact hs
   | und=>rw[hg] at hs;exact hs.1
   | tup m=>rw[hg] at hs;exact hs.1
   | val ag p cs d pin =>
     rw[hg] at hs hRk
     obtain ⟨vs,h1,h2,h3⟩:=hs
     exact ⟨vs,h1,hRk _ _ _ _ rfl h2,h3⟩
   | box p cs d pin =>
     rw[hg] at hs hRk
     obtain ⟨h1,h2⟩:=hs
     exact ⟨hRk _ _ _ _ (by simp[AA.settle,AA.lentFree,noLents,Pm.noLent]) h1,h2⟩
   | view k' pl =>
     rw[hg] at hs hlk0
     obtain ⟨hf,hv⟩:=hs
     simp only[AA.settle]
     split
     ·rename_i hkk
      split
      ·exact hf
      ·rename_i p cs d hroot
       split
       ·exact hf
       ·rename_i hst
        refine ⟨hf,?_⟩
        simp only[Bool.or_eq_true,not_or,Bool.not_eq_true] at hst
        have hk0:=(hlk0 k' (by simp[AA.looks])).1
        rw[Cl,if_pos (G4.2 ⟨by simpa using hkk,hk0⟩)]
        intro p' cs' d' hr' hs'
        rw[IM,hroot] at hr'
        simp only[Option.map_some,zS,zP] at hr'
        obtain ⟨rfl,rfl,rfl⟩:=hr'
        obtain ⟨vs0,base0,el,rv,base,h1,h2,h3⟩:=hv p cs d hroot hst.1
        exact ⟨vs0,base0,el,rv,base,Id h1,h2,h3⟩
     ·exact hf
   | ptr k' pl =>
     rw[hg] at hs hlk0
     obtain ⟨hf,hv⟩:=hs
     simp only[AA.settle]
     split
     ·rename_i hkk
      split
      ·exact hf
      ·rename_i p cs d hroot
       split
       ·exact hf
       ·rename_i hst
        refine ⟨hf,?_⟩
        have hk0:=(hlk0 k' (by simp[AA.looks])).1
        rw[Cl,if_pos (G4.2 ⟨by simpa using hkk,hk0⟩)]
        intro p' cs' d' hr' hs'
        rw[IM,hroot] at hr'
        simp only[Option.map_some,zS,zP] at hr'
        obtain ⟨rfl,rfl,rfl⟩:=hr'
        obtain ⟨vs0,base0,el,rv,b,o,h1,h2,h3⟩:=hv p cs d hroot (by simpa using hst)
        exact ⟨vs0,base0,el,rv,b,o,Id h1,h2,h3⟩
     ·exact hf
   | clo f caps =>
     rw[hg] at hs hlk0
     obtain ⟨hf,vs,h1,h2⟩:=hs
     simp only[AA.settle]
     split
     ·rename_i hall
      refine ⟨hf,vs,h1,KR keep h2 fun c hc => ?_⟩
      rw[all_eq_true] at hall
      have hc' :=hall c hc
      simp only[zB] at hc'
      obtain ⟨c1,c2⟩:=hc'
      refine ⟨G4.2 ⟨by simpa using c1,(hlk0 c.1 (mem_map.2 ⟨c,hc,rfl⟩)).1⟩,?_⟩
      split at c2
      ·simp at c2
      ·rename_i p cs d hroot
       exact ⟨p,cs,d,hroot,by simpa using c2⟩
     ·exact hf
  ·rw[Cl,if_neg hk]
   simp only[if_neg hk]
   rfl
 ·split
  ·exact h.nodup k
  ·simp
 ·split at hx
  ·split at hy
   ·exact h.disj j k hjk x hx y hy
   ·simp at hy
  ·simp at hx
 ·split at hf
  ·exact h.wok k f hf
  ·simp at hf
theorem Kx.settle0 (h:Kx C n w a σ) (keep:List Nat):Kx C n w a (settle0 keep σ):=by
 obtain ⟨⟨h1,Lt,cv,fp,h2⟩,h3⟩:=h
 obtain ⟨Lt',fp',h4⟩:=Pz h2 keep
 exact ⟨⟨h1,Lt',cv,fp',h4⟩,h3⟩
structure Ie where
 w0:World
 Fz:Nat→Prop
 mfp:Fp
def Cs.re (C:Cs) (B:Ie):Cs:=⟨C.P,C.E,B.w0,B.Fz,B.mfp,C.pinv,C.fx⟩
def Cs.base (C:Cs):Ie:=⟨C.w0,C.Fz,C.mfp⟩
structure Cs.Up (C:Cs) (B:Ie):Prop where
 ext:Ay C.w0 B.w0 C.Mut
 fz:∀ b,C.Fz b→B.Fz b
 turns:∀ y∈B.mfp,C.Ok y
theorem Cs.Up.refl (C:Cs):C.Up C.base:=⟨Ay.refl _ _,fun _ h=>h,fun y hy => .inr ⟨y,hy,rfl,Nat.le_refl _,Nat.le_refl _⟩⟩
theorem Cs.Up.ok {C:Cs} {B:Ie} (h:C.Up B) {f:Fe} (hf:(C.re B).Ok f):C.Ok f:=by
 rcases hf with hf | ⟨y,hy,e,h1,h2⟩
 ·exact .inl (Nat.le_trans h.ext.size hf)
 ·rcases h.turns y hy with k | ⟨z,hz,e',k1,k2⟩
  ·exact .inl (e ▸ k)
  ·exact .inr ⟨z,hz,e'.trans e,Nat.le_trans k1 h1,Nat.le_trans h2 k2⟩
theorem Cs.Up.muts {C:Cs} {B:Ie} (h:C.Up B) {b j:Nat} (hb:b<C.w0.heap.size) (hm:(C.re B).Mut b j):C.Mut b j:=by
 obtain ⟨y,hy,e,h1,h2⟩:=hm
 rcases h.turns y hy with k | ⟨z,hz,e',k1,k2⟩
 ·omega
 ·exact ⟨z,hz,e'.trans e,by omega,by omega⟩
theorem Cs.Up.trans {C:Cs} {B B':Ie} (h:C.Up B) (k:(C.re B).Up B'):C.Up B' :=
 ⟨h.ext.trans k.ext (fun _ _ h=>h) (fun _ _ hb hm=>h.muts hb hm),fun b hb=>k.fz b (h.fz b hb),fun y hy=>h.ok (k.turns y hy)⟩
theorem R.monoFz {ps ts vs fp} (h:R w Fz Lt g ps ts vs fp) (hF:∀ b,Fz b→Fz' b) (hp:∀ f∈fp,¬ Fz' f.b):R w Fz' Lt g ps ts vs fp :=
 h.mono (Ay.refl w (fun _ _=>False)) hF (fun _ _ h=>h) (by simp) (by simp) (fun f hf=>⟨by simp,hp f hf,h.noLtAbove f hf⟩)
theorem R.shareIn {ps ts vs fp} (h:R w Fz Lt g ps ts vs fp) (hn:(fp.map Fe.b).Nodup):∃ f',f'.Sublist fp∧∀ Fz':Nat→Prop,(∀ b,Fz b→Fz' b)→(∀ x∈fp,x ∉ f'→Fz' x.b)→(∀ x∈f',¬ Fz' x.b)→R w Fz' Lt g (G7 ps) ts vs f' :=by
 induction h with
 | nil=>exact ⟨[],by simp,fun _ _ _ _ => .nil⟩
 | leaf h _ ih =>
   obtain ⟨f',h1,h2⟩:=ih hn
   exact ⟨f',h1,fun Fz' a b c => .leaf h (h2 Fz' a b c)⟩
 | dead _ ih =>
   obtain ⟨f',h1,h2⟩:=ih hn
   exact ⟨f',h1,fun Fz' a b c => .dead (h2 Fz' a b c)⟩
 | @slE fl el a cap ps ts vs fp h _ ih =>
   obtain ⟨f',h1,h2⟩:=ih hn
   refine ⟨f',h1,fun Fz' a b c => ?_⟩
   cases fl with
   | own=>exact .slE h (h2 Fz' a b c)
   | shr=>exact .slE h (h2 Fz' a b c)
   | lent=>exact .slE h (h2 Fz' a b c)
 | slS h0 hb hz hn' hs hr hi _ _ ih =>
   obtain ⟨f',h1,h2⟩:=ih hn
   exact ⟨f',h1,fun Fz' a b c => .slS h0 hb (a _ hz) hn' hs hr (hi.monoFz a (by simp)) (h2 Fz' a b c)⟩
 | slL h0 hb hl hn' hs hr hi _ _ ih =>
   obtain ⟨f',h1,h2⟩:=ih hn
   exact ⟨f',h1,fun Fz' a b c => .slL h0 hb hl hn' hs hr (hi.monoFz a (by simp)) (h2 Fz' a b c)⟩
 | slX h _ ih =>
   obtain ⟨f',h1,h2⟩:=ih hn
   exact ⟨f',h1,fun Fz' a b c => .slX h (h2 Fz' a b c)⟩
 | @slH fl el a n cap ps ts vs fp _ ih =>
   obtain ⟨f',h1,h2⟩:=ih hn
   refine ⟨f',h1,fun Fz' a b c => ?_⟩
   cases fl <;>exact .slH (h2 Fz' a b c)
 | @slO b off n cap row e fr el cs vs' ps ts vs fp₁ fp₂ h0 hb hz hl hn' hs hr hf hi _ _ ih =>
   simp only[cons_append,map_cons,map_append,nodup_cons,nodup_append] at hn
   obtain ⟨hn1,hn2,hn3,hn4⟩:=hn
   obtain ⟨f',h1,h2⟩:=ih hn3
   refine ⟨⟨b,off,off+n * el.length,off+n * el.length,off+cap * el.length⟩::f',?_,fun Fz' a c d => ?_⟩
   ·exact .cons_cons _ (h1.trans (List.sublist_append_right _ _))
   ·have hne:∀ x:Fe,x∈fp₁∨x∈fp₂→x≠⟨b,off,off+n * el.length,off+n * el.length,off+cap * el.length⟩:=by
     rintro x hx rfl
     apply hn1
     rcases hx with hx | hx
     ·exact mem_append.2 (.inl (mem_map.2 ⟨_,hx,rfl⟩))
     ·exact mem_append.2 (.inr (mem_map.2 ⟨_,hx,rfl⟩))
    have hi' :=hi.share (g' :=g) (Lt' :=Lt) a (fun x hx=>c x (by simp[hx]) (by
     intro hm
     rw[mem_cons] at hm
     rcases hm with hm | hm
     ·exact hne x (.inl hx) hm
     ·exact hn4 _ (mem_map.2 ⟨x,hx,rfl⟩) _ (mem_map.2 ⟨x,h1.subset hm,rfl⟩) rfl))
    rw[Hl] at hi'
    have:=R.slO (el:=shares el) (vs' :=vs') (by rw[AP];exact h0) hb (d _ (mem_cons_self ..)) (by rw[AP];exact hl) hn' (by rw[AP];exact hs) (by rw[AP];exact hr) hf hi'
     (h2 Fz' a (fun x hx hx'=>c x (by simp[hx]) (by
       intro hm
       rw[mem_cons] at hm
       rcases hm with hm | hm
       ·exact hne x (.inr hx) hm
       ·exact hx' hm)) (fun x hx=>d x (mem_cons_of_mem _ hx)))
    rw[AP] at this
    exact this
 | rfS h0 hb hz hs hr hi _ _ ih =>
   obtain ⟨f',h1,h2⟩:=ih hn
   exact ⟨f',h1,fun Fz' a b c => .rfS h0 hb (a _ hz) hs hr (hi.monoFz a (by simp)) (h2 Fz' a b c)⟩
 | rfL h0 hb hl hs hr hi _ _ ih =>
   obtain ⟨f',h1,h2⟩:=ih hn
   exact ⟨f',h1,fun Fz' a b c => .rfL h0 hb hl hs hr (hi.monoFz a (by simp)) (h2 Fz' a b c)⟩
 | @rfO b off row e fr el cs vs' ps ts vs fp₁ fp₂ h0 hb hz hl hs hr hf hi _ _ ih =>
   simp only[cons_append,map_cons,map_append,nodup_cons,nodup_append] at hn
   obtain ⟨hn1,hn2,hn3,hn4⟩:=hn
   obtain ⟨f',h1,h2⟩:=ih hn3
   refine ⟨⟨b,off,off+el.length,0,off+el.length⟩::fp₁++f',?_,fun Fz' a c d => ?_⟩
   ·exact .cons_cons _ (List.Sublist.append (List.Sublist.refl _) h1)
   ·exact .rfO h0 hb (d ⟨b,off,off+el.length,0,off+el.length⟩ (by simp)) hl hs hr hf (hi.monoFz a (fun x hx=>d x (by simp[hx])))
     (h2 Fz' a (fun x hx hx'=>c x (by simp[hx]) (by
       intro hm
       simp only[cons_append,mem_cons,mem_append] at hm
       rcases hm with rfl | hm | hm
       ·exact hn1 (mem_append.2 (.inr (mem_map.2 ⟨_,hx,rfl⟩)))
       ·exact hn4 _ (mem_map.2 ⟨x,hm,rfl⟩) _ (mem_map.2 ⟨x,hx,rfl⟩) rfl
       ·exact hx' hm)) (fun x hx=>d x (by simp[hx])))
 | rfX h _ ih =>
   obtain ⟨f',h1,h2⟩:=ih hn
   exact ⟨f',h1,fun Fz' a b c => .rfX h (h2 Fz' a b c)⟩
 | mvE _ ih =>
   obtain ⟨f',h1,h2⟩:=ih hn
   exact ⟨f',h1,fun Fz' a b c => .mvE (h2 Fz' a b c)⟩
 | @mvX g' el t v n cs vs' ps ts vs fp₁ fp₂ h hi _ _ ih =>
   simp only[map_append,nodup_append] at hn
   obtain ⟨hn2,hn3,hn4⟩:=hn
   obtain ⟨f',h1,h2⟩:=ih hn3
   refine ⟨fp₁++f',List.Sublist.append (List.Sublist.refl _) h1,fun Fz' a c d => ?_⟩
   exact .mvX h (hi.monoFz a (fun x hx=>d x (by simp[hx])))
     (h2 Fz' a (fun x hx hx'=>c x (by simp[hx]) (by
       intro hm
       rcases mem_append.1 hm with hm | hm
       ·exact hn4 _ (mem_map.2 ⟨x,hm,rfl⟩) _ (mem_map.2 ⟨x,hx,rfl⟩) rfl
       ·exact hx' hm)) (fun x hx=>d x (by simp[hx])))
 | @mvO b off n cap row e fr el cs vs' ps ts vs fp₁ fp₂ h0 hb hl hs hr hi _ _ ih =>
   simp only[map_append,nodup_append] at hn
   obtain ⟨hn2,hn3,hn4⟩:=hn
   obtain ⟨f',h1,h2⟩:=ih hn3
   refine ⟨fp₁++f',List.Sublist.append (List.Sublist.refl _) h1,fun Fz' a c d => ?_⟩
   exact .mvO h0 hb hl hs hr (hi.monoFz a (fun x hx=>d x (by simp[hx])))
     (h2 Fz' a (fun x hx hx'=>c x (by simp[hx]) (by
       intro hm
       rcases mem_append.1 hm with hm | hm
       ·exact hn4 _ (mem_map.2 ⟨x,hm,rfl⟩) _ (mem_map.2 ⟨x,hx,rfl⟩) rfl
       ·exact hx' hm)) (fun x hx=>d x (by simp[hx])))
 | @bldN b T e p ps ts vs fp hb hpp hz hl _ ih =>
   simp only[map_cons,nodup_cons] at hn
   obtain ⟨hn1,hn3⟩:=hn
   obtain ⟨f',h1,h2⟩:=ih hn3
   refine ⟨⟨b,0,2,0,2⟩::f',.cons_cons _ h1,fun Fz' a c d => ?_⟩
   exact .bldN hb hpp (d ⟨b,0,2,0,2⟩ (by simp)) hl (h2 Fz' a (fun x hx hx'=>c x (by simp[hx]) (by
    intro hm
    rcases mem_cons.1 hm with rfl | hm
    ·exact hn1 (mem_map.2 ⟨_,hx,rfl⟩)
    ·exact hx' hm)) (fun x hx=>d x (by simp[hx])))
 | @bldO b T e p c n cap cur bs ps ts vs fp hb hpp hz hl hc hzc hlc h0 hn' hm' hcs hbs _ ih =>
   simp only[map_cons,nodup_cons,mem_cons,not_or] at hn
   obtain ⟨⟨hn0,hn1⟩,hn2,hn3⟩:=hn
   obtain ⟨f',h1,h2⟩:=ih hn3
   refine ⟨⟨b,0,2,0,2⟩::⟨c,0,cap,0,cap+1⟩::f',.cons_cons _ (.cons_cons _ h1),fun Fz' a k d => ?_⟩
   exact .bldO hb hpp (d ⟨b,0,2,0,2⟩ (by simp)) hl hc (d ⟨c,0,cap,0,cap+1⟩ (by simp)) hlc h0 hn' hm' hcs hbs (h2 Fz' a (fun x hx hx'=>k x (by simp[hx]) (by
    intro hm
    simp only[mem_cons] at hm
    rcases hm with rfl | rfl | hm
    ·exact hn1 (mem_map.2 ⟨_,hx,rfl⟩)
    ·exact hn2 (mem_map.2 ⟨_,hx,rfl⟩)
    ·exact hx' hm)) (fun x hx=>d x (by simp[hx])))
 | fnv hi _ _ ih =>
   obtain ⟨f',h1,h2⟩:=ih hn
   exact ⟨f',h1,fun Fz' a b c => .fnv (hi.monoFz a (by simp)) (h2 Fz' a b c)⟩
theorem Cw (p:List Pm):(G7 p).length=p.length:=by simp[G7]
theorem Ae.reK {k:Nat} {s:AA} {f:Fp} {B:Ie} (h:Ae C w Lt g cv env k f s) (hF:∀ b,C.Fz b→B.Fz b) (hf:∀ x∈f,¬ B.Fz x.b) (hl:∀ k'∈s.looks,AG env' k'=AG env k') :
  Ae (C.re B) w Lt g cv env' k f s:=by
 cases s with
 | dead=>exact h
 | gone=>exact h
 | und=>exact h
 | val ag p cs d pin =>
   obtain ⟨vs,h1,h2,h3⟩:=h
   exact ⟨vs,h1,h2.monoFz hF hf,h3⟩
 | tup n=>exact h
 | box p cs d pin =>
   obtain ⟨h1,h2⟩:=h
   exact ⟨h1.monoFz hF hf,h2⟩
 | view k' pl =>
   obtain ⟨h1,h2⟩:=h
   exact ⟨h1,by rw[hl k' (by simp[AA.looks])];exact h2⟩
 | ptr k' pl =>
   obtain ⟨h1,h2⟩:=h
   exact ⟨h1,by rw[hl k' (by simp[AA.looks])];exact h2⟩
 | clo f caps =>
   obtain ⟨h1,vs,h2,h3⟩:=h
   refine ⟨h1,vs,h2,?_⟩
   have:∀ {caps:List (Nat × AX)} {vs:List Value},(∀ c∈caps,AG env' c.1=AG env c.1)→Du w cv env caps vs→Du w cv env' caps vs:=by
    intro caps
    induction caps with
    | nil=>intro vs _ h;cases vs <;>exact h
    | cons c caps ih =>
      intro vs hc h
      cases vs with
      | nil=>exact h.elim
      | cons v vs=>exact ⟨by rw[hc c (by simp)];exact h.1,ih (fun c' hc'=>hc c' (mem_cons_of_mem _ hc')) h.2⟩
   exact this (fun c hc=>hl c.1 (mem_map.2 ⟨c,hc,rfl⟩)) h3
theorem Ae.froze {k:Nat} {s:AA} {f:Fp} (h:Ae C w Lt g cv env k f s) (hn:(f.map Fe.b).Nodup) (m:Bool) :
  s.froze m=s∨∃ f',f'.Sublist f∧∀ (B:Ie) (env':List (Nat × AA)),(∀ b,C.Fz b→B.Fz b)→(∀ x∈f,x ∉ f'→B.Fz x.b)→(∀ x∈f',¬ B.Fz x.b)→Ae (C.re B) w Lt g cv env' k f' (s.froze m):=by
 cases s with
 | val ag p cs d pin =>
   cases pin with
   | succ=>exact .inl rfl
   | zero =>
     right
     obtain ⟨vs,h1,h2,h3⟩:=h
     cases m with
     | false=>exact ⟨[],by simp,fun B env' a b c=>⟨vs,h1,h2.share a (fun x hx=>b x hx (by simp)),fun h=>absurd rfl h⟩⟩
     | true =>
       obtain ⟨f',q1,q2⟩:=h2.shareIn hn
       exact ⟨f',q1,fun B env' a b c=>⟨vs,h1,q2 B.Fz a b c,fun h=>absurd rfl h⟩⟩
 | box p cs d pin =>
   cases pin with
   | succ=>exact .inl rfl
   | zero =>
     right
     obtain ⟨h1,h2⟩:=h
     generalize hv:cv k=v at h1
     cases h1 with
     | @rfO b off row e fr _ _ vs' _ _ _ f1 f2 h0 hb hz hl hs hsz hf hi r =>
       cases r
       simp only[append_nil,map_cons,nodup_cons] at hn
       have hne:∀ x∈f1,x≠⟨b,off,off+p.length,0,off+p.length⟩:=by
        rintro x hx rfl
        exact hn.1 (mem_map.2 ⟨_,hx,rfl⟩)
       cases m with
       | false =>
         refine ⟨[⟨b,off,off+p.length,0,off+p.length⟩],by simp,fun B env' a c d'=>⟨?_,fun h=>absurd rfl h⟩⟩
         have:=R.rfO (el:=shares p) (cs:=cs) (vs' :=vs') (by rw[AP];exact h0) hb (d' ⟨b,off,off+p.length,0,off+p.length⟩ (by simp)) hl (by rw[AP];exact hs) (by rw[AP];exact hsz) (by rw[AP];exact hf)
          (hi.share (g' :=g) (Lt' :=Lt) a (fun x hx=>c x (by simp[hx]) (by simp only[mem_singleton];exact hne x hx))) (R.nil (w:=w) (Fz:=B.Fz) (Lt:=Lt) (g:=g))
         rw[AP] at this
         rw[hv];exact this
       | true =>
         obtain ⟨f',q1,q2⟩:=hi.shareIn hn.2
         refine ⟨⟨b,off,off+p.length,0,off+p.length⟩::f',by simpa using q1,fun B env' a c d'=>⟨?_,fun h=>absurd rfl h⟩⟩
         have:=R.rfO (el:=G7 p) (cs:=cs) (vs' :=vs') (by rw[Cw];exact h0) hb (d' ⟨b,off,off+p.length,0,off+p.length⟩ (by simp)) hl (by rw[Cw];exact hs) (by rw[Cw];exact hsz) (by rw[Cw];exact hf)
          (q2 B.Fz a (fun x hx hx'=>c x (by simp[hx]) (by
            intro hm
            rw[mem_cons] at hm
            rcases hm with hm | hm
            ·exact hne x hx hm
            ·exact hx' hm)) (fun x hx=>d' x (by simp[hx]))) (R.nil (w:=w) (Fz:=B.Fz) (Lt:=Lt) (g:=g))
         rw[Cw,append_nil] at this
         rw[hv];exact this
 | _=>exact .inl rfl
theorem MC (m:Bool) (s:AA):(s.froze m).looks=s.looks∨s.froze m=s:=by
 cases s with
 | val ag p cs d pin=>cases pin <;>first | (left;rfl) | (right;rfl)
 | box p cs d pin=>cases pin <;>first | (left;rfl) | (right;rfl)
 | _=>right;rfl
theorem SS (F:Nat→AA→AA) (hF:∀ k,F k .dead = .dead):∀ (env:List (Nat × AA)) (k:Nat),AG (env.map fun x=>(x.1,F x.1 x.2)) k=F k (AG env k)
 | [],k=>by simp[AG,hF]
 | x::env,k=>by
   simp only[map_cons,AG,SS F hF env k]
   by_cases h:x.1=k
   ·simp[h]
   ·simp[h]
theorem Qx (keep:List Nat) (env:List (Nat × AA)) (k:Nat):FS keep env k .dead = .dead:=by
 unfold FS
 split
 ·rfl
 ·split <;>rfl
theorem FZ (keep:List Nat) (τ:AS) (k:Nat):AG (Ev keep τ).env k=FS keep τ.env k (AG τ.env k) :=
 SS (FS keep τ.env) (Qx keep τ.env) τ.env k
theorem Uq:∀ {env:List (Nat × AA)} {k:Nat},AG env k ≠ .dead→k∈env.map (·.1)
 | [],k,h=>absurd rfl h
 | x::env,k,h=>by
   simp only[AG] at h
   simp only[map_cons,mem_cons]
   split at h
   ·rename_i e;exact .inl e.symm
   ·exact .inr (Uq h)
theorem Ru:∀ {env:List (Nat × AA)} {k:Nat},AG env k ≠ .dead→(k,AG env k)∈env
 | [],k,h=>absurd rfl h
 | x::env,k,h=>by
   simp only[AG] at h ⊢
   split at h
   ·rename_i e;rw[if_pos e];subst e;exact mem_cons_self ..
   ·rename_i e;rw[if_neg e];exact mem_cons_of_mem _ (Ru h)
theorem PA {env:List (Nat × AA)} {j k:Nat} (h:k∈(AG env j).looks):OJ env k=true:=by
 have hne:AG env j ≠ .dead:=by intro e;rw[e] at h;simp[AA.looks] at h
 unfold OJ
 rw[any_eq_true]
 exact ⟨_,Ru hne,by rw[any_eq_true];exact ⟨k,h,by simp⟩⟩
theorem IT {keep:List Nat} {env:List (Nat × AA)} {k:Nat} {s:AA} (h:OJ env k=true):FS keep env k s=s:=by
 unfold FS
 simp[h]
open Classical in
theorem M0 (h:C1 C w a σ Lt cv fp) (keep:List Nat):∃ B fp',C.Up B∧C1 (C.re B) w a (Ev keep σ) Lt cv fp' :=by
 have each:∀ k,∃ f',f'.Sublist (fp k)∧∀ (B:Ie),(∀ b,C.Fz b→B.Fz b)→(∀ x∈fp k,x ∉ f'→B.Fz x.b)→(∀ x∈f',¬ B.Fz x.b)→Ae (C.re B) w Lt σ.g cv (Ev keep σ).env k f' (AG (Ev keep σ).env k):=by
  intro k
  rw[FZ]
  have hlk:∀ k'∈(AG σ.env k).looks,AG (Ev keep σ).env k'=AG σ.env k' :=fun k' hk'=>by rw[FZ,IT (PA hk')]
  have same:∃ f',f'.Sublist (fp k)∧∀ (B:Ie),(∀ b,C.Fz b→B.Fz b)→(∀ x∈fp k,x ∉ f'→B.Fz x.b)→(∀ x∈f',¬ B.Fz x.b)→Ae (C.re B) w Lt σ.g cv (Ev keep σ).env k f' (AG σ.env k) :=
   ⟨fp k,List.Sublist.refl _,fun B a b c=>(h.slots k).reK a c hlk⟩
  have turn:∀ m,∃ f',f'.Sublist (fp k)∧∀ (B:Ie),(∀ b,C.Fz b→B.Fz b)→(∀ x∈fp k,x ∉ f'→B.Fz x.b)→(∀ x∈f',¬ B.Fz x.b)→Ae (C.re B) w Lt σ.g cv (Ev keep σ).env k f' ((AG σ.env k).froze m):=by
   intro m
   rcases (h.slots k).froze (h.nodup k) m with e | ⟨f',h1,h2⟩
   ·rw[e];exact same
   ·exact ⟨f',h1,fun B=>h2 B _⟩
  unfold FS
  split
  ·exact turn false
  ·split
   ·exact turn true
   ·exact same
 have hch:=Classical.axiomOfChoice each
 obtain ⟨fp',hfp'⟩:=hch
 have hsub:∀ k x,x∈fp' k→x∈fp k:=fun k x hx=>(hfp' k).1.subset hx
 let mfp:Fp:=(σ.env.map (·.1)).flatMap fp'
 let Fz':Nat→Prop:=fun b=>C.Fz b∨∃ k,∃ x∈fp k,x ∉ fp' k∧x.b=b
 let B:Ie:=⟨w,Fz',mfp⟩
 have hin:∀ k x,x∈fp' k→x∈mfp:=by
  intro k x hx
  refine List.mem_flatMap.2 ⟨k,Uq ?_,hx⟩
  intro e
  have hs:=h.slots k
  rw[e] at hs
  have:fp k=[]:=hs
  have:=hsub k x hx
  simp_all
 have hback:∀ y∈mfp,∃ k,y∈fp' k:=fun y hy=>by
  obtain ⟨k,-,hk⟩:=List.mem_flatMap.1 hy
  exact ⟨k,hk⟩
 have hnot:∀ k,∀ x∈fp' k,¬ Fz' x.b:=by
  rintro k x hx (hz | ⟨k2,y,hy,hy',e⟩)
  ·exact ((h.fz _ hz).2:∀ y∈C.mfp,y.b≠x.b) |> fun hm=>by
    rcases h.wok k x (hsub k x hx) with h1 | ⟨y,hy,e,-⟩
    ·have:=(h.fz _ hz).1;omega
    ·exact hm y hy e
  ·by_cases hk:k=k2
   ·subst hk
    have:=Jn (h.nodup k) hy (hsub k x hx) e
    subst this
    exact hy' hx
   ·exact h.disj k k2 hk x (hsub k x hx) y hy e.symm
 refine ⟨B,fp',⟨h.ext,fun b hb => .inl hb,fun y hy => ?_⟩,⟨h.tmps,fun k => ?_,fun k => ?_,fun j k hjk x hx y hy=>h.disj j k hjk x (hsub j x hx) y (hsub k y hy),fun k f hf => .inr ⟨f,hin k f hf,rfl,Nat.le_refl _,Nat.le_refl _⟩,h.lt,fun j k hk => ?_,fun b hb=>⟨?_,fun y hy e => ?_⟩,Ay.refl _ _,h.size⟩⟩
 ·obtain ⟨k,hk⟩:=hback y hy
  exact h.wok k y (hsub k y hk)
 ·exact (hfp' k).2 B (fun b hb => .inl hb) (fun x hx hx' => .inr ⟨k,x,hx,hx',rfl⟩) (hnot k)
 ·exact (h.nodup k).sublist ((hfp' k).1.map _)
 ·have hk':k∈(AG σ.env j).looks:=by
   rw[FZ] at hk
   unfold FS at hk
   split at hk
   ·rcases MC false (AG σ.env j) with e | e <;>rw[e] at hk <;>exact hk
   ·split at hk
    ·rcases MC true (AG σ.env j) with e | e <;>rw[e] at hk <;>exact hk
    ·exact hk
  rw[FZ,IT (PA hk')]
  exact h.looks j k hk'
 ·rcases hb with hb | ⟨k,x,hx,-,rfl⟩
  ·exact Nat.lt_of_lt_of_le (h.fz b hb).1 h.ext.size
  ·exact ((h.slots k).inHeap hx).1
 ·obtain ⟨k,hk⟩:=hback y hy
  exact hnot k y hk (e ▸ hb)
theorem Kx.settle (h:Kx C n w a σ) (keep:List Nat):∃ B,C.Up B∧(M7 keep=false→B.Fz=C.Fz)∧Kx (C.re B) n w a (settle keep σ):=by
 have h0:=h.settle0 keep
 unfold Desk.settle
 cases hk:M7 keep with
 | false=>exact ⟨C.base,Cs.Up.refl C,fun _=>rfl,h0⟩
 | true =>
   obtain ⟨⟨h1,Lt,cv,fp,h2⟩,h3⟩:=h0
   obtain ⟨B,fp',hu,h4⟩:=M0 h2 keep
   exact ⟨B,hu,fun e=>by simp at e,⟨h1,Lt,cv,fp',h4⟩,h3⟩
theorem Rc {keep:List (Nat × List Nat)} (h:HC keep=true) (j:Nat):M7 (Bq keep j)=false:=by
 induction keep with
 | nil=>rfl
 | cons x keep ih =>
   obtain ⟨i,k⟩:=x
   unfold HC at h
   simp only[all_cons,zB,Bool.not_eq_true'] at h
   simp only[Bq]
   split
   ·exact h.1
   ·exact ih (by unfold HC;exact h.2)
def Gk (n:Nat) (ks:List Nat):Code→Bool
 | .region _ ops _=>Mx n ks ops
 | .seq x y=>Gk n ks x&&Gk n ks y
 | .cond c x y=>(match c with | .tmp t=>Nat.blt t 1000000 | _=>true)&&Gk n ks x&&Gk n ks y
 | .block _ x=>Gk n ks x
 | .loop x=>Gk n ks x
 | _=>true
def Ex.toExit:Ex→Exit
 | .normal => .normal
 | .exit id => .exit id
 | .ret => .ret
theorem d9 (p:Nat→Prop) (h:∃ n,p n):∃ n,p n∧∀ m,p m→n≤m:=by
 obtain ⟨n,hn⟩:=h
 induction n using Nat.strongRecOn with
 | _ n ih =>
   by_cases hm:∃ m,m<n∧p m
   ·obtain ⟨m,h1,h2⟩:=hm
    exact ih m h1 h2
   ·refine ⟨n,hn,fun m h1 => ?_⟩
    rcases Nat.lt_or_ge m n with h | h
    ·exact absurd ⟨m,h,h1⟩ hm
    ·exact h
open Classical in
theorem U5 {P:Program} {Q:Exit→Act→World→Prop} {c:Code} (I:Nat→Act→World→Prop) {N:Nat} (h₀:I N a w)
  (round:∀ m a w,I m a w→c.wp P (Exit.then (fun a' w'=>∃ m',m'<m∧I m' a' w') Q) a w):(Code.loop c).wp P Q a w:=by
 have hmin:∀ a w,(∃ m,I m a w)→∃ m,I m a w∧∀ m',I m' a w→m≤m' :=fun a w h=>d9 (fun m=>I m a w) h
 refine wp_loop (fun a w=>∃ m,I m a w) (fun a w=>if h:∃ m,I m a w then Classical.choose (hmin a w h) else 0) ⟨N,h₀⟩ fun a w h => ?_
 have hs:=Classical.choose_spec (hmin a w h)
 refine wp_mono (round _ a w hs.1) fun e a' w' hq => ?_
 cases e with
 | normal =>
   obtain ⟨m',h1,h2⟩:=hq
   refine ⟨⟨m',h2⟩,?_⟩
   rw[dif_pos h,dif_pos ⟨m',h2⟩]
   exact Nat.lt_of_le_of_lt ((Classical.choose_spec (hmin a' w' ⟨m',h2⟩)).2 m' h2) h1
 | _=>exact hq
def Cs.On (C:Cs) (keep:List (Nat × List Nat)) (B B':Ie):Prop:=(C.re B).Up B'∧(HC keep=true→B'.Fz=B.Fz)
theorem Cs.On.refl (C:Cs) (keep:List (Nat × List Nat)) (B:Ie):C.On keep B B:=⟨Cs.Up.refl (C.re B),fun _=>rfl⟩
theorem Cs.On.trans {C:Cs} {keep:List (Nat × List Nat)} {B B' B'':Ie} (h:C.On keep B B') (k:C.On keep B' B''):C.On keep B B'' :=
 ⟨Cs.Up.trans (C:=C.re B) h.1 k.1,fun e=>(k.2 e).trans (h.2 e)⟩
theorem Kx.settleOn {C:Cs} {keep:List (Nat × List Nat)} {B:Ie} (h:Kx (C.re B) n w a σ) (j:Nat):∃ B',C.On keep B B'∧Kx (C.re B') n w a (Desk.settle (Bq keep j) σ):=by
 obtain ⟨B',h1,h2,h3⟩:=h.settle (Bq keep j)
 exact ⟨B',⟨h1,fun e=>h2 (Rc e j)⟩,h3⟩
theorem Sv {callF:Nat→List Aa→Option Dv} {N:Nat} {keep:List (Nat × List Nat)} (hm:C.P.follows .mixedOrders=true) (hE:Cx C.P C.E) (hF:∀ f,J2 C.P callF f):∀ {c:Code} {σ σ':AS} {ex:Ex} {a:Act} {w:World} {Q:Exit→Act→World→Prop} {B:Ie},
  Af C.E callF N keep c σ=some (ex,σ')→Gk n (C.fx.map (·.1)) c=true→Kx (C.re B) n w a σ→(∀ B' a' w',C.On keep B B'→Kx (C.re B') n w' a' σ'→Q ex.toExit a' w')→c.wp C.P Q a w:=by
 intro c
 induction c with
 | skip =>
   intro σ σ' ex a w Q B h _ hs hQ
   simp only[Af,zS,zP] at h
   obtain ⟨rfl,rfl⟩:=h
   exact wp_skip (hQ B a w (.refl C keep B) hs)
 | region id ops draw =>
   intro σ σ' ex a w Q B h hc hs hQ
   simp only[Af,LJ] at h
   split at h
   ·simp at h
   rename_i σ1 fs hrun
   split at h
   ·rename_i hr
    simp only[zS,zP] at h
    obtain ⟨rfl,rfl⟩:=h
    obtain ⟨B1,hB1,hs1⟩:=hs.settleOn (keep:=keep) id
    exact Vs (C:=C.re B1) hm hrun hr hc hE hF hs1 (fun a' w' hs'=>hQ B1 a' w' hB1 hs')
   ·simp at h
 | seq x y ihx ihy =>
   intro σ σ' ex a w Q B h hc hs hQ
   simp only[Gk,zB] at hc
   simp only[Af] at h
   split at h
   ·rename_i σ1 h1
    exact wp_seq (ihx h1 hc.1 hs fun B1 a' w' hB1 hs'=>ihy h hc.2 hs' fun B2 a2 w2 hB2 hs2=>hQ B2 a2 w2 (hB1.trans hB2) hs2)
   ·refine wp_seq (ihx h hc.1 hs fun B1 a' w' hB1 hs' => ?_)
    cases ex with
    | normal=>rename_i hn;exact absurd h (hn σ')
    | exit id=>exact hQ B1 a' w' hB1 hs'
    | ret=>exact hQ B1 a' w' hB1 hs'
 | cond c x y ihx ihy =>
   intro σ σ' ex a w Q B h hc hs hQ
   simp only[Gk,zB] at hc
   simp only[Af] at h
   obtain ⟨⟨hdf,Lt,cv,fp,hst⟩,hfx⟩:=hs
   split at h
   ·rename_i b hb
    have hop:Ah c:=by
     cases c with
     | tmp t=>simpa [Ah] using hc.1.1
     | _=>trivial
    have hl:=A5 hst hop hb
    simp only[AJ] at hl
    cases b with
    | true=>exact wp_cond_true hl (ihx h hc.1.2 ⟨⟨hdf,Lt,cv,fp,hst⟩,hfx⟩ hQ)
    | false=>exact wp_cond_false hl (ihy h hc.2 ⟨⟨hdf,Lt,cv,fp,hst⟩,hfx⟩ hQ)
   ·simp at h
 | block id x ih =>
   intro σ σ' ex a w Q B h hc hs hQ
   simp only[Af] at h
   split at h
   ·rename_i id' σ1 h1
    refine wp_block (ih h1 hc hs fun B1 a' w' hB1 hs' => ?_)
    simp only[Ex.toExit,Exit.inBlock]
    split at h
    ·rename_i e
     simp only[zS,zP] at h
     obtain ⟨rfl,rfl⟩:=h
     rw[if_pos e];exact hQ B1 a' w' hB1 hs'
    ·rename_i e
     simp only[zS,zP] at h
     obtain ⟨rfl,rfl⟩:=h
     rw[if_neg e];exact hQ B1 a' w' hB1 hs'
   ·refine wp_block (ih h hc hs fun B1 a' w' hB1 hs' => ?_)
    cases ex with
    | exit id'=>rename_i hn;exact absurd h (hn id' σ')
    | normal=>exact hQ B1 a' w' hB1 hs'
    | ret=>exact hQ B1 a' w' hB1 hs'
 | loop x ih =>
   intro σ σ' ex a w Q B h hc hs hQ
   simp only[Af] at h
   unfold Im at h
   split at h
   ·simp at h
   rename_i ex0 σ0 h0
   simp only[zS,zP] at h
   obtain ⟨rfl,rfl⟩:=h
   obtain ⟨B0,hB0,hs0⟩:=hs.settleOn (keep:=keep) (CI x)
   refine U5 (fun m a w=>∃ B1 σ,C.On keep B B1∧Kx (C.re B1) n w a σ∧K1 m (Desk.settle (Bq keep (CI x))) (Af C.E callF N keep x) σ=some (ex0,σ0)) (N:=N) ⟨B0,_,hB0,hs0,h0⟩ fun m a w hI => ?_
   obtain ⟨B1,σ1,hB1,hs1,h1⟩:=hI
   cases m with
   | zero=>simp[K1] at h1
   | succ m =>
     simp only[K1] at h1
     split at h1
     ·rename_i σ2 h2
      refine ih h2 hc hs1 fun B2 a' w' hB2 hs' => ?_
      obtain ⟨B3,hB3,hs3⟩:=hs'.settleOn (keep:=keep) (CI x)
      exact ⟨m,Nat.lt_succ_self m,B3,_,(hB1.trans hB2).trans hB3,hs3,h1⟩
     ·refine ih h1 hc hs1 fun B2 a' w' hB2 hs' => ?_
      obtain ⟨B3,hB3,hs3⟩:=hs'.settleOn (keep:=keep) (KQ x)
      cases ex0 with
      | normal=>rename_i hn;exact absurd h1 (hn σ0)
      | exit id=>exact hQ B3 a' w' ((hB1.trans hB2).trans hB3) hs3
      | ret=>exact hQ B3 a' w' ((hB1.trans hB2).trans hB3) hs3
 | exit id =>
   intro σ σ' ex a w Q B h _ hs hQ
   simp only[Af,zS,zP] at h
   obtain ⟨rfl,rfl⟩:=h
   exact wp_exit (hQ B a w (.refl C keep B) hs)
 | ret =>
   intro σ σ' ex a w Q B h _ hs hQ
   simp only[Af,zS,zP] at h
   obtain ⟨rfl,rfl⟩:=h
   exact wp_ret (hQ B a w (.refl C keep B) hs)
 | _=>intro σ σ' ex a w Q B h;simp[Af] at h
end
def PH:Nat→List Cn→List Nat
 | _,[]=>[]
 | i,.iop::ms=>i::PH (i+1) ms
 | i,_::ms=>PH (i+1) ms
def GG (E:Av):List ResultVar→List (Nat × Option (Bool × Nat))→Bool
 | [],[]=>true
 | .tmp t::rs,(t',none)::r=>t==t'&&GG E rs r
 | .cell a t::rs,(a',some (ag,n))::r=>a==a'&&(match E.ty t with
   | some d=>d.agg==ag&&d.sz==n
   | none=>false)&&GG E rs r
 | _,_=>false
def UZ (E:Av) (fn:Func) (c:Code) (modes:List Cn) (outs:List Nat) (results:List (Nat × Option (Bool × Nat))):Bool :=
 Nat.ble modes.length fn.ntmps&&Nat.ble fn.ntmps 1000000&&Gk fn.ntmps (PH 0 modes) c&&GG E fn.results.toList results&&(results.map (·.1)++outs).all (fun t=>Nat.blt t 1000000)
def ZG (P:Program) (f:Nat) (h:List T→Option (List (Bool × List Pm × List T))):Prop :=
 ∀ ts rs,h ts=some rs→∀ (w:World) (Fz:Nat→Prop) (as:List Aa) (xs:List Value),D4 w Fz as xs []→(as.all F7)=true→(as.flatMap fun a=>a.v.cs)=ts →
  ∃ v w',(callFunc f xs.toArray).run P w = .ok (.value v) w'∧Ay w w' (fun _ _=>False)∧∃ fr,QT w' Fz noLt 0 (rs.map fun x=>⟨x.1,x.2.1,x.2.2⟩) v fr∧(fr.flatten.map Fe.b).Nodup∧∀ x∈fr.flatten,w.heap.size≤x.b
def Yx (h:List T→Option (List (Bool × List Pm × List T))) (as:List Aa):Option Dv:=if as.all F7 then (match h (as.flatMap fun a=>a.v.cs) with
 | none=>none
 | some rs=>some ⟨rs.map fun x=>⟨x.1,x.2.1,x.2.2⟩,as.map fun _=>none⟩) else none
def G5 (P:Program) (f:Nat) (h:List T→Option (List (Bool × List Pm × List T))):Prop:=J2 P (fun _ as=>Yx h as) f
def Cb (P:Program) (E:Av) (f:Nat):FD→Prop
 | .code c modes outs results _ => ∃ fn, P.funcs[f]? = some fn ∧ (fn.name == "runtime.NumGoroutine") = false ∧ fn.body = some c ∧ UZ E fn c modes outs results = true
 | .ext h=>G5 P f h
 | .sem _ h=>J2 P (fun _ as=>h as) f
section
variable {C:Cs} {w w':World} {a a':Act} {σ τ:AS} {Lt Lt':Nat→Nat→Prop} {cv cv':Nat→Value} {fp fpU:Nat→Fp} {g g' n:Nat} {env env':List (Nat × AA)} {o:Oper} {Fz Fz':Nat→Prop}
def YZ (w:World) (Fz:Nat→Prop) (arg:Aa) (x:Value) (f:Fp):Prop:=match arg.m with
 | .val=>f=[]∧∃ vs,AD arg.v.agg x vs∧R w Fz noLt 0 arg.v.p arg.v.cs vs f
 | .io=>∃ vs,AD arg.v.agg x vs∧R w Fz noLt 0 arg.v.p arg.v.cs vs f
 | .iop=>∃ p cs,arg.v=⟨false,[.rf .own p],[.ref cs]⟩∧R w Fz noLt 0 [.rf .own p] [.ref cs] [x] f
theorem D4.list {as xs mfp} (h:D4 w Fz as xs mfp):xs.length=as.length∧∃ fs:List Fp,fs.length=as.length∧fs.flatten=mfp∧∀ (i:Nat) arg,as[i]?=some arg→∃ x f,xs[i]?=some x∧fs[i]?=some f∧YZ w Fz arg x f:=by
 induction h with
 | nil=>exact ⟨rfl,[],rfl,rfl,by simp⟩
 | @val v x vs as xs fs hc hR r ih =>
   obtain ⟨l,gs,h1,h2,h3⟩:=ih
   refine ⟨by simp[l],[]::gs,by simp[h1],by simp[h2],fun i arg hi => ?_⟩
   cases i with
   | zero =>
     simp only[List.getElem?_cons_zero,zS] at hi
     subst hi
     exact ⟨x,[],rfl,rfl,rfl,vs,hc,hR⟩
   | succ i=>simpa using h3 i arg (by simpa using hi)
 | @io v x vs f as xs fs hc hR r ih =>
   obtain ⟨l,gs,h1,h2,h3⟩:=ih
   refine ⟨by simp[l],f::gs,by simp[h1],by simp[h2],fun i arg hi => ?_⟩
   cases i with
   | zero =>
     simp only[List.getElem?_cons_zero,zS] at hi
     subst hi
     exact ⟨x,f,rfl,rfl,vs,hc,hR⟩
   | succ i=>simpa using h3 i arg (by simpa using hi)
 | @iop p cs x f as xs fs hR r ih =>
   obtain ⟨l,gs,h1,h2,h3⟩:=ih
   refine ⟨by simp[l],f::gs,by simp[h1],by simp[h2],fun i arg hi => ?_⟩
   cases i with
   | zero =>
     simp only[List.getElem?_cons_zero,zS] at hi
     subst hi
     exact ⟨x,f,rfl,rfl,p,cs,rfl,hR⟩
   | succ i=>simpa using h3 i arg (by simpa using hi)
def cellsOf (ag:Bool) (x:Value):List Value:=if ag then (match x with | .agg vs=>vs.toList | _=>[]) else [x]
theorem NH {ag:Bool} {x:Value} {vs:List Value} (h:AD ag x vs):cellsOf ag x=vs:=by
 cases ag
 ·simp only[AD,Bool.false_eq_true,if_false] at h;simp[cellsOf,h]
 ·simp only[AD,if_true] at h;simp[cellsOf,h]
theorem KA:∀ (as:List Aa) (s k:Nat),AG (IA s as) k=match (if s≤k then as[k - s]? else none) with | some arg=>KY k arg | none => .dead
 | [],s,k=>by simp[IA,AG]
 | a::as,s,k=>by
   simp only[IA,AG,KA as (s+1) k]
   by_cases h:s=k
   ·subst h;simp
   ·rw[if_neg h]
    by_cases h1:s≤k
    ·have h2:s+1≤k:=by omega
     rw[if_pos h1,if_pos h2,show k - s=(k - (s+1))+1 by omega,List.getElem?_cons_succ]
    ·rw[if_neg h1,if_neg (by omega)]
theorem OU (i:Nat) (arg:Aa):(KY i arg).looks=[]:=by
 obtain ⟨m,v⟩:=arg
 cases m <;>simp only[KY] <;>try rfl
 split <;>rfl
def Nl:Nat→List Aa→List Value→List (Nat × Value)
 | i,a::as,x::xs=>(match a.m with | .iop=>[(i,x)] | _=>[])++Nl (i+1) as xs
 | _,_,_=>[]
theorem JX:∀ {ms:List Cn} {as:List Aa},Ds ms as=true→ms.length=as.length∧ms=as.map (·.m)
 | [],[],_=>⟨rfl,rfl⟩
 | [],_::_,h=>by simp[Ds] at h
 | _::_,[],h=>by simp[Ds] at h
 | m::ms,a::as,h=>by
   simp only[Ds,zB] at h
   obtain ⟨h1,h2⟩:=JX h.2
   have:m=a.m:=by
    have:=h.1
    cases m <;>cases hm:a.m <;>simp[Cn.beq,hm] at this <;>rfl
   exact ⟨by simp[h1],by simp[h2,this]⟩
theorem Pq:∀ {as:List Aa} {xs:List Value} (i:Nat),xs.length=as.length→(Nl i as xs).map (·.1)=PH i (as.map (·.m))
 | [],[],i,_=>rfl
 | [],_::_,_,h=>by simp at h
 | _::_,[],_,h=>by simp at h
 | a::as,x::xs,i,h=>by
   have ih:=Pq (as:=as) (xs:=xs) (i+1) (by simpa using h)
   simp only[Nl,map_append,ih,map_cons]
   cases hm:a.m <;>simp[PH]
theorem ST:∀ {as:List Aa} {xs:List Value} {i:Nat} {kx:Nat × Value},kx∈Nl i as xs→i≤kx.1∧xs[kx.1 - i]?=some kx.2
 | [],xs,i,kx,h=>by cases xs <;>simp[Nl] at h
 | _::_,[],i,kx,h=>by simp[Nl] at h
 | a::as,x::xs,i,kx,h=>by
   simp only[Nl,mem_append] at h
   rcases h with h | h
   ·cases hm:a.m <;>simp[hm] at h
    subst h
    simp
   ·obtain ⟨h1,h2⟩:=ST h
    refine ⟨by omega,?_⟩
    rw[show kx.1 - i=(kx.1 - (i+1))+1 by omega]
    simpa using h2
theorem SY:∀ {as:List Aa} {xs:List Value} {i j:Nat} {arg:Aa} {x:Value},as[j]?=some arg→arg.m = .iop→xs[j]?=some x→(i+j,x)∈Nl i as xs
 | [],xs,i,j,arg,x,h,_,_=>by simp at h
 | _::_,[],i,j,arg,x,_,_,h=>by simp at h
 | a::as,y::xs,i,j,arg,x,h,hm,hx=>by
   simp only[Nl,mem_append]
   cases j with
   | zero =>
     simp only[List.getElem?_cons_zero,zS] at h hx
     subst h hx
     left;simp[hm]
   | succ j =>
     right
     have:=SY (i:=i+1) (as:=as) (xs:=xs) (j:=j) (by simpa using h) hm (by simpa using hx)
     rwa [show i+1+j=i+(j+1) by omega] at this
def JZ (P:Program) (E:Av) (w:World) (Fz:Nat→Prop) (as:List Aa) (xs:List Value) (mfp:Fp):Cs where
 P:=P
 E:=E
 w0:=w
 Fz:=Fz
 mfp:=mfp
 pinv:=fun p=>match as[p - 1]?,xs[p - 1]? with
  | some a,some x=>cellsOf a.v.agg x
  | _,_=>[]
 fx:=Nl 0 as xs
theorem NI {xs:List Value} {nt k:Nat}:(xs.toArray++Array.replicate (nt - xs.toArray.size) undef).getD k undef=xs.getD k undef:=by
 rw[Array.getD_eq_getD_getElem?,Array.getElem?_append,List.getD_eq_getElem?_getD]
 split
 ·simp
 ·rename_i h
  have h':xs.length≤k:=by simpa using h
  rw[Array.getElem?_replicate,List.getElem?_eq_none h']
  split <;>rfl
theorem Wv {P:Program} {E:Av} {nt:Nat} {as:List Aa} {xs:List Value} {mfp:Fp} (hA:D4 w Fz as xs mfp) (hn:(mfp.map Fe.b).Nodup) (hF:∀ b,Fz b→b<w.heap.size) (h1:as.length≤nt) (h2:nt≤1000000) :
  Kx (JZ P E w Fz as xs mfp) nt w { tmps:=xs.toArray++Array.replicate (nt - xs.toArray.size) undef,defers:=[] } ⟨IA 0 as,0⟩:=by
 obtain ⟨hl,fs,hfl,rfl,hargs⟩:=hA.list
 have hsz:(xs.toArray++Array.replicate (nt - xs.toArray.size) undef).size=nt:=by simp;omega
 have hfd:∀ i f,fs[i]?=some f→∀ x∈f,x∈fs.flatten:=fun i f hi x hx=>mem_flatten.2 ⟨f,List.mem_of_getElem? hi,hx⟩
 have hfg:∀ k,fs.getD k []=(fs[k]?).getD []:=fun k=>List.getD_eq_getElem?_getD
 have hmz:∀ y∈fs.flatten,¬ Fz y.b:=by
  intro y hy
  obtain ⟨f,hf,hyf⟩:=mem_flatten.1 hy
  obtain ⟨i,hi⟩:=List.mem_iff_getElem?.1 hf
  have hia:i<as.length:=by
   have:=(List.getElem?_eq_some_iff.1 hi).1;omega
  obtain ⟨x,f',hx,hf',hR⟩:=hargs i _ (List.getElem?_eq_getElem hia)
  rw[hi] at hf'
  obtain rfl:=Option.some.inj hf'
  unfold YZ at hR
  split at hR
  ·rw[hR.1] at hyf;simp at hyf
  ·obtain ⟨vs,-,hR⟩:=hR;exact (hR.lt y hyf).2.2.2
  ·obtain ⟨p,cs,-,hR⟩:=hR;exact (hR.lt y hyf).2.2.2
 refine ⟨⟨rfl,noLt,fun k=>if k<1000000 then xs.getD k undef else undef,fun k=>fs.getD k [],?_⟩,hsz,fun kx hkx => ?_⟩
 ·refine ⟨fun k hk => ?_,fun k => ?_,fun k => ?_,fun j k hjk x hx y hy => ?_,fun k f hf => ?_,fun _ _ h=>h.elim,fun j k hk => ?_,fun b hb=>⟨hF b hb,fun y hy e=>hmz y hy (e ▸ hb)⟩,Ay.refl _ _,?_⟩
  ·show (if k<1000000 then _ else _)=_
   rw[if_pos hk,NI]
  ·simp only[KA,Nat.zero_le,if_true,Nat.sub_zero]
   cases ha:as[k]? with
   | none =>
     have:as.length≤k:=by
      rcases Nat.lt_or_ge k as.length with h | h
      ·rw[List.getElem?_eq_getElem h] at ha;simp at ha
      ·exact h
     show fs.getD k []=[]
     rw[hfg,List.getElem?_eq_none (by omega)];rfl
   | some arg =>
     have hk:k<as.length:=(List.getElem?_eq_some_iff.1 ha).1
     obtain ⟨x,f,hx,hf,hR⟩:=hargs k arg ha
     have hcv:(if k<1000000 then xs.getD k undef else undef)=x:=by
      rw[if_pos (by omega),List.getD_eq_getElem?_getD,hx];rfl
     have hfk:fs.getD k []=f:=by rw[hfg,hf];rfl
     have hpin:(JZ P E w Fz as xs fs.flatten).pinv (k+1)=cellsOf arg.v.agg x:=by
      simp only[JZ,Nat.add_sub_cancel,ha,hx]
     obtain ⟨m,v⟩:=arg
     unfold YZ at hR
     cases m with
     | val =>
       simp only at hR
       obtain ⟨hf0,vs,hc,hR⟩:=hR
       rw[hfk]
       exact ⟨vs,by simp only[hcv];exact hc,hR,fun h=>absurd rfl h⟩
     | io =>
       simp only at hR
       obtain ⟨vs,hc,hR⟩:=hR
       rw[hfk]
       exact ⟨vs,by simp only[hcv];exact hc,hR,fun _=>by rw[hpin];exact NH hc⟩
     | iop =>
       simp only at hR
       obtain ⟨p,cs,rfl,hR⟩:=hR
       rw[hfk]
       simp only[KY,Ns]
       exact ⟨by simp only[hcv];exact hR,fun h=>absurd rfl h⟩
  ·simp only[hfg]
   cases hf:fs[k]? with
   | none=>simp
   | some f=>exact Gj hn hf
  ·simp only[hfg] at hx hy
   cases h1:fs[j]? with
   | none=>simp[h1] at hx
   | some f =>
     cases h2:fs[k]? with
     | none=>simp[h2] at hy
     | some f' =>
       simp only[h1,Option.getD_some] at hx
       simp only[h2,Option.getD_some] at hy
       exact Gp hn h1 h2 hjk x hx y hy
  ·simp only[hfg] at hf
   cases h1:fs[k]? with
   | none=>simp[h1] at hf
   | some f' =>
     simp only[h1,Option.getD_some] at hf
     exact .inr ⟨f,hfd k f' h1 f hf,rfl,Nat.le_refl _,Nat.le_refl _⟩
  ·simp only[KA] at hk
   split at hk
   ·rw[OU] at hk;simp at hk
   ·simp[AA.looks] at hk
  ·show (xs.toArray++Array.replicate (nt - xs.toArray.size) undef).size≤1000000
   rw[hsz];exact h2
 ·obtain ⟨-,h3⟩:=ST (i:=0) hkx
  show (xs.toArray++Array.replicate (nt - xs.toArray.size) undef).getD kx.1 undef=kx.2
  rw[NI,List.getD_eq_getElem?_getD]
  rw[Nat.sub_zero] at h3
  rw[h3];rfl
theorem Lx (h:C1 C w a σ Lt cv fp):∀ {ps:List (Nat × Fp)},(ps.map (·.1)).Nodup→(∀ x∈ps,(∀ y∈x.2,y∈fp x.1)∧(x.2.map Fe.b).Nodup)→(((ps.map (·.2)).flatten).map Fe.b).Nodup
 | [],_,_=>by simp
 | p::ps,hn,hf=>by
   simp only[map_cons,nodup_cons] at hn
   simp only[map_cons,flatten_cons,map_append,nodup_append]
   obtain ⟨h1,h2⟩:=hf p (by simp)
   refine ⟨h2,Lx h hn.2 fun x hx=>hf x (mem_cons_of_mem _ hx),fun b hb b' hb' e => ?_⟩
   obtain ⟨x,hx,rfl⟩:=mem_map.1 hb
   obtain ⟨y,hy,rfl⟩:=mem_map.1 hb'
   obtain ⟨f,hf',hyf⟩:=mem_flatten.1 hy
   obtain ⟨q,hq,rfl⟩:=mem_map.1 hf'
   have hne:p.1≠q.1:=fun e=>hn.1 (e ▸ mem_map.2 ⟨q,hq,rfl⟩)
   exact h.disj p.1 q.1 hne x (h1 x hx) y ((hf q (mem_cons_of_mem _ hq)).1 y hyf) e
def Q6 (tmps:Array Value):ResultVar→Sem Value
 | .tmp t=>pure (tmps.getD t undef)
 | .cell x t=>do loadVar t (← asAddr (tmps.getD x undef))
theorem Il (h:C1 C w a σ Lt cv fp) (hE:Cx C.P C.E):∀ {l:List ResultVar} {results:List (Nat × Option (Bool × Nat))} {rs:List V},GG C.E l results=true→(∀ t∈results.map (·.1),t<1000000)→PF σ.env results=some rs →
  ∃ vs fs,(l.mapM (Q6 a.tmps)).run C.P w = .ok vs w∧GZ w C.Fz Lt σ.g rs vs fs ∧
   ∃ ps:List (Nat × Fp),ps.map (·.1)=results.map (·.1)∧ps.map (·.2)=fs∧∀ x∈ps,(∀ y∈x.2,y∈fp x.1)∧(x.2.map Fe.b).Nodup
 | [],[],rs,_,_,hr=>by
   simp only[PF,zS] at hr
   subst hr
   exact ⟨[],[],rfl,.nil,[],rfl,rfl,by simp⟩
 | [],_::_,rs,ht,_,_=>by simp[GG] at ht
 | .tmp t::l,[],rs,ht,_,_=>by simp[GG] at ht
 | .cell x t::l,[],rs,ht,_,_=>by simp[GG] at ht
 | .tmp t::l,(t',some c)::results,rs,ht,_,_=>by simp[GG] at ht
 | .cell x t::l,(t',none)::results,rs,ht,_,_=>by simp[GG] at ht
 | .tmp t::l,(t',none)::results,rs,ht,hlt,hr=>by
   simp only[GG,zB,beq_iff_eq] at ht
   obtain ⟨rfl,ht⟩:=ht
   simp only[PF] at hr
   split at hr
   ·simp at hr
   rename_i v hv
   split at hr
   ·simp at hr
   rename_i vs1 hvs
   simp only[zS] at hr
   subst hr
   obtain ⟨vs,fs,h1,h2,ps,h3,h4,h5⟩:=Il h hE ht (fun t ht=>hlt t (by simp only[map_cons,mem_cons];exact .inr ht)) hvs
   have ht0:t<1000000:=hlt t (by simp)
   have hs:=h.slots t
   have hone:∃ us f,AD v.agg (cv t) us∧R w C.Fz Lt σ.g v.p v.cs us f∧f=fp t:=by
    unfold Z6 at hv
    split at hv
    ·rename_i hg
     rw[hg] at hs
     simp only[zS] at hv
     subst hv
     obtain ⟨us,c1,c2,-⟩:=hs
     exact ⟨us,_,c1,c2,rfl⟩
    ·rename_i hg
     rw[hg] at hs
     simp only[zS] at hv
     subst hv
     exact ⟨[cv t],_,by simp[AD],hs.1,rfl⟩
    ·simp_all
    ·simp at hv
   obtain ⟨us,f,c1,c2,rfl⟩:=hone
   refine ⟨cv t::vs,fp t::fs,?_,.cons c1 c2 h2,(t,fp t)::ps,by simp[h3],by simp[h4],fun x hx => ?_⟩
   ·simp only[mapM_cons,Q6,Sem.run_bind,Sem.run_pure,Result.andThen_ok,h1,h.tmps t ht0]
   ·rw[mem_cons] at hx
    rcases hx with rfl | hx
    ·exact ⟨fun _ hy=>hy,h.nodup t⟩
    ·exact h5 x hx
 | .cell x t::l,(t',some (ag,n))::results,rs,ht,hlt,hr=>by
   simp only[GG,zB,beq_iff_eq] at ht
   obtain ⟨⟨rfl,hty⟩,ht⟩:=ht
   split at hty
   ·rename_i d hd
    simp only[zB,beq_iff_eq] at hty
    obtain ⟨rfl,rfl⟩:=hty
    simp only[PF] at hr
    split at hr
    ·simp at hr
    rename_i v hv
    split at hr
    ·simp at hr
    rename_i vs1 hvs
    simp only[zS] at hr
    subst hr
    obtain ⟨vs,fs,h1,h2,ps,h3,h4,h5⟩:=Il h hE ht (fun t ht=>hlt t (by simp only[map_cons,mem_cons];exact .inr ht)) hvs
    have ht0:x<1000000:=hlt x (by simp)
    have hs:=h.slots x
    unfold Z6 at hv
    split at hv
    ·simp_all
    ·simp_all
    ·rename_i a1 n1 p cs dd hcell hg
     simp only[zS,zP] at hcell
     obtain ⟨rfl,rfl⟩:=hcell
     split at hv
     ·rename_i hpl
      have hpl:p.length=d.sz:=by simpa using hpl
      simp only[zS] at hv
      subst hv
      obtain ⟨vs0,base0,fI,hrv,hR,hsub,hk⟩:=hs.rootR (s:=AG σ.env x) (p:=p) (cs:=cs) (d:=dd) (by rw[hg];rfl)
      rcases hk with ⟨_,_,e,_⟩ | ⟨pin,b,off,row,e,fr,e1,e2,hcv,hb,e3,hsz,hfp,-⟩
      ·rw[hg] at e;simp at e
      ·obtain ⟨u,k1,k2⟩:=IE (P:=C.P) (E:=C.E) (t:=t) (hE t d hd) hb (by omega:off+d.sz≤row.size)
       have hnI:(fI.map Fe.b).Nodup:=by
        have:=h.nodup x
        rw[hfp] at this
        simp only[map_cons,nodup_cons] at this
        exact this.2
       refine ⟨u::vs,fI::fs,?_,.cons k2 (by rw[← hpl,← e3];exact hR) h2,(x,fI)::ps,by simp[h3],by simp[h4],fun y hy => ?_⟩
       ·have ha:∀ ad,asAddr (.pointer (some ad))=(pure ad:Sem Addr):=fun _=>rfl
        simp only[mapM_cons,Q6,Sem.run_bind,Sem.run_pure,Result.andThen_ok,h1,← h.tmps x ht0,hcv,ha,k1]
       ·rw[mem_cons] at hy
        rcases hy with rfl | hy
        ·exact ⟨hsub,hnI⟩
        ·exact h5 y hy
     ·simp at hv
    ·simp at hv
   ·simp at hty
end
section
variable {C:Cs} {w w':World} {a a':Act} {σ τ:AS} {Lt Lt':Nat→Nat→Prop} {cv cv':Nat→Value} {fp fpU:Nat→Fp} {g g' n:Nat} {env env':List (Nat × AA)} {o:Oper} {Fz Fz':Nat→Prop}
theorem Hb (h:C1 C w a σ Lt cv fp):∀ {as:List Aa} {xs:List Value} {i:Nat} {outs:List Nat} {os:List (Option V)},xs.length=as.length →
  (∀ j arg,as[j]?=some arg→∃ x,xs[j]?=some x∧(arg.m = .io→∃ vs,AD arg.v.agg x vs∧C.pinv (i+j+1)=vs)∧(arg.m = .iop→cv (i+j)=x)) →
  JJ σ.env i (as.map (·.m)) outs=some os →
  ∃ fo,FO w C.Fz Lt σ.g as xs os fo∧∃ ps:List (Nat × Fp),(ps.map (·.1)).Sublist outs∧(ps.map (·.2)).flatten=fo∧∀ x∈ps,(∀ y∈x.2,y∈fp x.1)∧(x.2.map Fe.b).Nodup
 | [],xs,i,outs,os,hl,_,ho=>by
   have:xs=[]:=length_eq_zero_iff.1 hl
   subst this
   simp only[map_nil,JJ,zS] at ho
   subst ho
   exact ⟨[],.nil,[],by simp,rfl,by simp⟩
 | _::_,[],i,outs,os,hl,_,_=>by simp at hl
 | ⟨m,v⟩::as,x::xs,i,outs,os,hl,ha,ho=>by
   have hl':xs.length=as.length:=by simpa using hl
   have ha':∀ j arg,as[j]?=some arg→∃ x,xs[j]?=some x∧(arg.m = .io→∃ vs,AD arg.v.agg x vs∧C.pinv (i+1+j+1)=vs)∧(arg.m = .iop→cv (i+1+j)=x):=by
    intro j arg hj
    obtain ⟨x',h1,h2,h3⟩:=ha (j+1) arg (by simpa using hj)
    refine ⟨x',by simpa using h1,?_,?_⟩
    ·intro hm;have:=h2 hm;rwa [show i+(j+1)+1=i+1+j+1 by omega] at this
    ·intro hm;have:=h3 hm;rwa [show i+(j+1)=i+1+j by omega] at this
   obtain ⟨x0,hx0,hio,hiop⟩:=ha 0 ⟨m,v⟩ rfl
   simp only[List.getElem?_cons_zero,zS] at hx0
   subst hx0
   rw[Nat.add_zero] at hio hiop
   cases m with
   | val =>
     simp only[map_cons,JJ] at ho
     split at ho
     ·simp at ho
     rename_i vs hvs
     simp only[zS] at ho
     subst ho
     obtain ⟨fo,h1,h2⟩:=Hb h hl' ha' hvs
     exact ⟨fo,.val h1,h2⟩
   | io =>
     cases outs with
     | nil=>simp[JJ] at ho
     | cons t ts =>
       simp only[map_cons,JJ] at ho
       split at ho
       ·simp at ho
       rename_i ov hov
       split at ho
       ·simp at ho
       rename_i vs hvs
       simp only[zS] at ho
       subst ho
       obtain ⟨fo,h1,ps,h2,h3,h4⟩:=Hb h hl' ha' hvs
       obtain ⟨us,hc,hpin⟩:=hio rfl
       have hs:=h.slots t
       have key:∃ f,R w C.Fz Lt σ.g ov.p ov.cs us f∧(∀ y∈f,y∈fp t)∧(f.map Fe.b).Nodup:=by
        unfold aW at hov
        split at hov
        ·rename_i hg
         split at hov
         ·rename_i hp
          simp only[zS] at hov
          subst hov
          rw[hg] at hs
          obtain ⟨us',c1,c2,c3⟩:=hs
          have:=c3 (by omega)
          rw[hp,hpin] at this
          subst this
          exact ⟨_,c2,fun _ h=>h,h.nodup t⟩
         ·simp at hov
        ·rename_i p cs dd pin _ hg
         split at hov
         ·rename_i hp
          simp only[zS] at hov
          subst hov
          obtain ⟨vs0,base0,fI,hrv,hR,hsub,hk⟩:=hs.rootR (s:=AG σ.env t) (p:=p) (cs:=cs) (d:=dd) (by rw[hg];rfl)
          rcases hk with ⟨_,_,e,_⟩ | ⟨pin',b,off,row,e,fr,e1,e2,hcv,hb,e3,hsz,hfp,-⟩
          ·rw[hg] at e;simp at e
          ·rw[hg] at hs
           obtain ⟨b2,off2,row2,ee,fr2,d1,d2,d3⟩:=hs.2 (by omega)
           rw[hcv] at d1
           obtain ⟨rfl,rfl⟩:b=b2∧off=off2:=by simpa using d1
           rw[hb] at d2
           obtain ⟨rfl,rfl,rfl⟩:row=row2∧e=ee∧fr=fr2:=by simpa using d2
           rw[hp,hpin] at d3
           have hn:=h.nodup t
           rw[hfp] at hn
           simp only[map_cons,nodup_cons] at hn
           exact ⟨fI,by rw[← d3,← e3];exact hR,hsub,hn.2⟩
         ·simp at hov
        ·simp_all
        ·simp at hov
       obtain ⟨f,k1,k2,k3⟩:=key
       refine ⟨f++fo,.io hc k1 h1,(t,f)::ps,by simpa using h2,by simp[h3],fun y hy => ?_⟩
       rw[mem_cons] at hy
       rcases hy with rfl | hy
       ·exact ⟨k2,k3⟩
       ·exact h4 y hy
   | iop =>
     cases outs with
     | nil=>simp[JJ] at ho
     | cons t ts =>
       simp only[map_cons,JJ] at ho
       split at ho
       ·simp at ho
       rename_i ov hov
       split at ho
       ·simp at ho
       rename_i vs hvs
       simp only[zS] at ho
       subst ho
       obtain ⟨fo,h1,ps,h2,h3,h4⟩:=Hb h hl' ha' hvs
       have hs:=h.slots t
       unfold aW at hov
       split at hov
       ·simp_all
       ·simp_all
       ·rename_i p cs dd _ hg
        split at hov
        ·rename_i hti
         subst hti
         simp only[zS] at hov
         subst hov
         rw[hg] at hs
         have hR:=hs.1
         rw[hiop rfl] at hR
         refine ⟨fp t++fo,.iop hR h1,(t,fp t)::ps,by simpa using h2,by simp[h3],fun y hy => ?_⟩
         rw[mem_cons] at hy
         rcases hy with rfl | hy
         ·exact ⟨fun _ h=>h,h.nodup _⟩
         ·exact h4 y hy
        ·simp at hov
       ·simp at hov
theorem GZ.anyFz {rs:List V} {xs:List Value} {fs:List Fp} (h:GZ w Fz Lt g rs xs fs) (hc:(rs.all fun v=>clean2s v.p)=true) (hF:∀ b,Fz' b→Fz b):GZ w Fz' Lt g rs xs fs:=by
 induction h with
 | nil=>exact .nil
 | cons h hR _ ih =>
   simp only[all_cons,zB] at hc
   exact .cons h (hR.anyFz hc.1 fun f hf hb=>(hR.lt f hf).2.2.2 (hF _ hb)) (ih hc.2)
theorem FO.anyFz {as:List Aa} {xs:List Value} {os:List (Option V)} {fo:Fp} (h:FO w Fz Lt g as xs os fo) (hc:Lf os=true) (hF:∀ b,Fz' b→Fz b):FO w Fz' Lt g as xs os fo:=by
 unfold Lf at hc
 induction h with
 | nil=>exact .nil
 | val _ ih =>
   simp only[all_cons,zB] at hc
   exact .val (ih hc.2)
 | io h hR _ ih =>
   simp only[all_cons,zB] at hc
   exact .io h (hR.anyFz hc.1 fun f hf hb=>(hR.lt f hf).2.2.2 (hF _ hb)) (ih hc.2)
 | iop hR _ ih =>
   simp only[all_cons,zB] at hc
   exact .iop (hR.anyFz hc.1 fun f hf hb=>(hR.lt f hf).2.2.2 (hF _ hb)) (ih hc.2)
theorem ZV {P:Program} {E:Av} (hm:P.follows .mixedOrders=true) (hE:Cx P E) {N f:Nat} (ih:∀ f,J2 P (Ab E N) f) {c:Code} {modes:List Cn} {outs:List Nat} {ress:List (Nat × Option (Bool × Nat))} {keep:List (Nat × List Nat)}
  {as:List Aa} {r:Dv} (hs:Ds modes as=true) (h:Qh modes outs ress keep (Af E (Ab E N) N keep c ⟨IA 0 as,0⟩)=some r) (ht:Cb P E f (.code c modes outs ress keep))
  {xs:List Value} {mfp:Fp} (hA:D4 w Fz as xs mfp) (hn:(mfp.map Fe.b).Nodup) (hF:∀ b,Fz b→b<w.heap.size):Ql P f xs.toArray w (Kp w Fz as xs mfp r):=by
 obtain ⟨fn,hf,hname,hb,htab⟩:=ht
 unfold UZ at htab
 simp only[zB,Nat.ble_eq,all_eq_true] at htab
 obtain ⟨⟨⟨⟨t1,t2⟩,t3⟩,t4⟩,t5⟩:=htab
 have t5:∀ t∈ress.map (·.1)++outs,t<1000000:=fun t ht=>by simpa using t5 t ht
 obtain ⟨hml,hmm⟩:=JX hs
 obtain ⟨hxl,fs,hfl,hflat,hargs⟩:=hA.list
 right
 refine ⟨?_,?_⟩
 ·have h1 : fn.name ≠ "runtime.NumGoroutine" := by simpa using hname
  simp[callFunc,hf,h1,hb]
 ·have hst:=Wv (P:=P) (E:=E) hA hn hF (by omega:as.length≤fn.ntmps) t2
  unfold Qh at h
  split at h
  ·simp at h
  ·simp at h
  ·rename_i ex σ' hnex hev
   split at h
   ·simp at h
   rename_i rs hrs
   split at h
   ·simp at h
   rename_i os hos
   split at h
   ·rename_i hnd
    rw[zB] at hnd
    obtain ⟨hnd,hcl⟩:=hnd
    have hnd:=Bh hnd
    simp only[zS] at h
    subst h
    have hks:(JZ P E w Fz as xs mfp).fx.map (·.1)=PH 0 modes:=by
     show (Nl 0 as xs).map (·.1)=_
     rw[Pq 0 hxl,hmm]
    have hpost:∀ B' a' w',(JZ P E w Fz as xs mfp).On keep (JZ P E w Fz as xs mfp).base B'→Kx ((JZ P E w Fz as xs mfp).re B') fn.ntmps w' a' σ'→a'.defers=[]∧∃ v,(results fn a'.tmps).run P w' = .ok v w'∧Kp w Fz as xs mfp ⟨rs,os⟩ v w' :=by
     intro B' a' w' hOn hs'
     have hFz:∀ b,Fz b→B'.Fz b:=hOn.1.fz
     obtain ⟨⟨hdf,Lt,cv,fp,hst'⟩,hsz,hfx⟩:=hs'
     refine ⟨hdf,?_⟩
     obtain ⟨vs,frs,r1,r2,ps,r3,r4,r5⟩:=Il hst' hE t4 (fun t ht=>t5 t (mem_append.2 (.inl ht))) hrs
     rw[hmm] at hos
     obtain ⟨fo,o1,po,o2,o3,o4⟩:=Hb hst' (i:=0) hxl (fun j arg hj=>by
      obtain ⟨x,f,hx,hf',hR⟩:=hargs j arg hj
      refine ⟨x,hx,fun hio => ?_,fun hiop => ?_⟩
      ·unfold YZ at hR
       rw[hio] at hR
       obtain ⟨vs,hc,-⟩:=hR
       refine ⟨vs,hc,?_⟩
       show (match as[0+j+1 - 1]?,xs[0+j+1 - 1]? with | some a,some x=>cellsOf a.v.agg x | _,_=>[])=vs
       rw[Nat.zero_add,Nat.add_sub_cancel,hj,hx]
       exact NH hc
      ·have:=SY (i:=0) hj hiop hx
       have h2:=hfx _ this
       simp only[Nat.zero_add] at h2 ⊢
       have hjl:j<1000000:=by
        have:=(List.getElem?_eq_some_iff.1 hj).1;omega
       rw[hst'.tmps j hjl];exact h2) hos
     have hcl2:GZ w' Fz Lt σ'.g rs vs frs∧FO w' Fz Lt σ'.g as xs os fo:=by
      cases hkf:HC keep with
      | true =>
        have e:B'.Fz=Fz:=hOn.2 hkf
        rw[← e]
        exact ⟨r2,o1⟩
      | false =>
        rw[hkf,Bool.false_or,zB] at hcl
        exact ⟨r2.anyFz hcl.1 hFz,o1.anyFz hcl.2 hFz⟩
     obtain ⟨r2,o1⟩:=hcl2
     have hv:∃ v,(results fn a'.tmps).run P w' = .ok v w'∧QT w' Fz Lt σ'.g rs v frs:=by
      have hres:results fn a'.tmps=(do
        let vs ← fn.results.mapM (Q6 a'.tmps)
        pure (if h:vs.size=1 then vs[0] else .tuple vs):Sem Value):=rfl
      rw[hres,Array.mapM_eq_mapM_toList]
      simp only[Sem.run_bind,Sem.run_map]
      have r1' :=r1
      have hl:=r2.length.1
      have hsize:∀ {v},vs=[v]→rs.length=1:=fun e=>by rw[e] at hl;simpa using hl.symm
      rw[show ((JZ P E w Fz as xs mfp).re B').P=P from rfl] at r1'
      rw[r1']
      simp only[Result.andThen_ok,Sem.run_pure]
      refine ⟨_,rfl,vs,r2,?_⟩
      match rs,hl with
      | [u],hl =>
        obtain ⟨v,rfl⟩:=length_eq_one_iff.1 hl
        simp
      | [],hl =>
        have:vs=[]:=length_eq_zero_iff.1 hl
        subst this
        simp
      | _::_::_,hl =>
        have:¬ vs.toArray.size=1:=by simp only[List.size_toArray,hl,length_cons];omega
        simp only[this,dite_false]
     obtain ⟨v,hv1,hv2⟩:=hv
     refine ⟨v,hv1,hOn.1.ext.trans hst'.ext (fun _ _ h=>h) (fun _ _ hb hm=>hOn.1.muts hb hm),Lt,σ'.g,frs,fo,hv2,o1,?_,fun x hx => ?_⟩
     ·have:frs.flatten++fo=((ps++po).map (·.2)).flatten:=by rw[map_append,List.flatten_append,r4,o3]
      rw[this]
      refine Lx hst' ?_ fun x hx => ?_
      ·rw[map_append,r3]
       exact hnd.sublist (List.Sublist.append (List.Sublist.refl _) o2)
      ·rw[mem_append] at hx
       rcases hx with hx | hx
       ·exact r5 x hx
       ·exact o4 x hx
     ·have:∃ t,x∈fp t:=by
       rw[mem_append] at hx
       rcases hx with hx | hx
       ·rw[← r4] at hx
        obtain ⟨f,hf',hxf⟩:=mem_flatten.1 hx
        obtain ⟨q,hq,rfl⟩:=mem_map.1 hf'
        exact ⟨q.1,(r5 q hq).1 x hxf⟩
       ·rw[← o3] at hx
        obtain ⟨f,hf',hxf⟩:=mem_flatten.1 hx
        obtain ⟨q,hq,rfl⟩:=mem_map.1 hf'
        exact ⟨q.1,(o4 q hq).1 x hxf⟩
      obtain ⟨t,ht⟩:=this
      exact hOn.1.ok (hst'.wok t x ht)
    refine calls_of_wp hf hb ?_
    refine Sv (C:=JZ P E w Fz as xs mfp) (n:=fn.ntmps) (B:=(JZ P E w Fz as xs mfp).base) hm hE ih hev (by rw[hks];exact t3) hst fun B' a' w' hB hs' => ?_
    cases ex with
    | normal=>exact hpost B' a' w' hB hs'
    | ret=>exact hpost B' a' w' hB hs'
    | exit id=>exact (hnex id rfl).elim
   ·simp at h
theorem bl {P:Program} {f:Nat} {hx:List T→Option (List (Bool × List Pm × List T))} {as:List Aa} {rs:List (Bool × List Pm × List T)} (hv:(as.all F7)=true) (h:hx (as.flatMap fun a=>a.v.cs)=some rs) (ht:ZG P f hx)
  {xs:List Value} {mfp:Fp} (hA:D4 w Fz as xs mfp):Ql P f xs.toArray w (Kp w Fz as xs mfp ⟨rs.map fun x=>⟨x.1,x.2.1,x.2.2⟩,as.map fun _=>none⟩):=by
 have hm:mfp=[]∧∀ (w':World) (L:Nat→Nat→Prop) (g:Nat),FO w' Fz L g as xs (as.map fun _=>none) []:=by
  clear h
  induction hA with
  | nil=>exact ⟨rfl,fun _ _ _ => .nil⟩
  | val hc hR r ih =>
    simp only[all_cons,zB] at hv
    exact ⟨(ih hv.2).1,fun w' L g => .val ((ih hv.2).2 w' L g)⟩
  | io=>simp[F7] at hv
  | iop=>simp[F7] at hv
 obtain ⟨rfl,hO⟩:=hm
 obtain ⟨v,w',h1,h2,fr,h3,h4,h5⟩:=ht _ rs h w Fz as xs hA hv rfl
 refine .inl ⟨v,w',h1,h2.mono (by simp),noLt,0,fr,[],h3,hO w' _ _,by simpa using h4,fun x hx' => .inl (h5 x (by simpa using hx'))⟩
theorem ZG.ok {P:Program} {f:Nat} {hx:List T→Option (List (Bool × List Pm × List T))} (ht:ZG P f hx):G5 P f hx:=by
 intro as r h w Fz xs mfp hA _ _
 simp only[Yx] at h
 split at h
 ·rename_i hv
  split at h
  ·simp at h
  ·rename_i rs hrs
   simp only[zS] at h
   subst h
   exact bl hv hrs ht hA
 ·simp at h
theorem Ir {P:Program} {E:Av} (hm:P.follows .mixedOrders=true) (hE:Cx P E) (hT:∀ f fd,E.fn f=some fd→Cb P E f fd):∀ (N:Nat) (f:Nat),J2 P (Ab E N) f:=by
 intro N
 induction N with
 | zero=>intro f as r h;simp[Ab] at h
 | succ N ih =>
   intro f as r h w Fz xs mfp hA hn hF
   simp only[Ab] at h
   split at h
   ·simp at h
   ·rename_i hx hfd
    exact hT f _ hfd as r h w Fz xs mfp hA hn hF
   ·rename_i hx hfd
    exact hT f _ hfd as r h w Fz xs mfp hA hn hF
   ·rename_i c modes outs results keep hfd
    split at h
    ·rename_i hs
     exact ZV hm hE ih hs h (hT f _ hfd) hA hn hF
    ·simp at h
end
def Kj (E:Av):Nat→List (Nat × Nat)→List Pm→Bool
 | _,[],[]=>true
 | o,(off,ty)::r,ps=>Nat.beq off o&&(match E.ty ty with
   | some d=>Nat.ble d.sz ps.length&&pbeqs (ps.take d.sz) d.own&&Kj E (o+d.sz) r (ps.drop d.sz)
   | none=>false)
 | _,_,_=>false
def Td (E:Av) (d:TD):Bool:=match d.kd with
 | .int _=>pbeqs d.own [.leaf]
 | .flt _=>pbeqs d.own [.leaf]
 | .bool=>pbeqs d.own [.leaf]
 | .str=>pbeqs d.own [.leaf]
 | .slc e=>match E.ty e with
   | some de=>pbeqs d.own [.sl .own de.own]
   | none=>false
 | .st fs=>Kj E 0 fs d.own
 | _=>true
def C4 (E:Av):Nat→Nat→Bool
 | 0,_=>false
 | n+1,t=>match E.ty t with
   | none=>false
   | some d=>Td E d&&(match d.kd with
     | .int _=>true
     | .flt _=>true
     | .bool=>true
     | .str=>true
     | .slc e=>C4 E n e
     | .st fs=>fs.all fun f=>C4 E n f.2
     | _=>false)
mutual
inductive WT (E:Av):Nat→List T→Prop
 | int {t d k n} (h:E.ty t=some d) (hk:d.kd = .int k) (h1:k.min≤n) (h2:n≤k.max):WT E t [.int k n]
 | flt {t d k x} (h:E.ty t=some d) (hk:d.kd = .flt k) (h1:As k x=x) (h2:(Lit.float k x).wf=true):WT E t [.flt k x]
 | bool {t d b} (h:E.ty t=some d) (hk:d.kd = .bool):WT E t [.bool b]
 | str {t d s} (h:E.ty t=some d) (hk:d.kd = .str) (hl:s.length≤maxLen):WT E t [.str s]
 | slc {t d e n cs} (h:E.ty t=some d) (hk:d.kd = .slc e) (hl:n≤maxLen) (hs:WTs E e n cs):WT E t [.lst n cs]
 | st {t d fs cs} (h:E.ty t=some d) (hk:d.kd = .st fs) (hf:WTf E fs cs):WT E t cs
inductive WTs (E:Av):Nat→Nat→List T→Prop
 | nil {e}:WTs E e 0 []
 | snoc {e n cs c} (h:WTs E e n cs) (hc:WT E e c):WTs E e (n+1) (cs++c)
inductive WTf (E:Av):List (Nat × Nat)→List T→Prop
 | nil:WTf E [] []
 | cons {off ty r c cs} (hc:WT E ty c) (h:WTf E r cs):WTf E ((off,ty)::r) (c++cs)
end
theorem LS {α β:Type} {f:α→Option β}:∀ {l:List α} {r:List β},l.mapM f=some r→r.length=l.length∧∀ (i:Nat) (x:α),l[i]?=some x→∃ y,r[i]?=some y∧f x=some y
 | [],r,h=>by
   simp only[List.mapM_nil] at h
   have:r=[]:=(Option.some.inj h).symm
   subst this
   exact ⟨rfl,by simp⟩
 | a::l,r,h=>by
   simp only[mapM_cons,Option.bind_eq_bind] at h
   cases ha:f a with
   | none=>simp[ha] at h
   | some b =>
     cases hl:l.mapM f with
     | none=>simp[ha,hl] at h
     | some bs =>
       simp[ha,hl] at h
       subst h
       obtain ⟨h1,h2⟩:=LS hl
       refine ⟨by simp[h1],fun i x hx => ?_⟩
       cases i with
       | zero =>
         simp only[List.getElem?_cons_zero,zS] at hx
         subst hx
         exact ⟨b,rfl,ha⟩
       | succ i=>simpa using h2 i x (by simpa using hx)
theorem Mm {w:World} {base:Nat} {a:Addr} {n:Nat} {vs:List Value} (h:w.cells? base a n=some vs) (hn:0<n) :
  ∃ row e fr,w.heap[a.block]?=some (.cells row e fr)∧a.spot=none∧vs=seg row a.off n∧a.off+n≤row.size:=by
 unfold World.cells? at h
 split at h
 ·obtain ⟨hl,hv⟩:=LS h
  have hl:vs.length=n:=by simpa using hl
  have key:∀ i,i<n→∃ v,vs[i]?=some v∧w.cell? (a.add i)=some v:=fun i hi=>hv i i (by simp[hi])
  obtain ⟨v0,-,hv0⟩:=key 0 hn
  simp only[World.cell?,Addr.add,if_true] at hv0
  split at hv0
  ·rename_i row e fr hb
   split at hv0
   ·simp at hv0
   rename_i hsp
   have hsp:a.spot=none:=by cases hs:a.spot <;>simp[hs] at hsp;rfl
   have hcell:∀ i,i<n→vs[i]?=row[a.off+i]? :=by
    intro i hi
    obtain ⟨v,h1,h2⟩:=key i hi
    rw[h1]
    unfold World.cell? Addr.add at h2
    by_cases hi0:i=0
    ·subst hi0
     simp only[if_true,hb,hsp,Option.isSome_none,Bool.false_eq_true,if_false] at h2
     rw[Nat.add_zero,h2]
    ·simp only[hi0,if_false,hb,Option.isSome_none,Bool.false_eq_true] at h2
     rw[h2]
   have hsize:a.off+n≤row.size:=by
    have h1:=hcell (n - 1) (by omega)
    rw[List.getElem?_eq_getElem (by omega)] at h1
    have:=(Array.getElem?_eq_some_iff.1 h1.symm).1
    omega
   refine ⟨row,e,fr,hb,hsp,?_,hsize⟩
   apply List.ext_getElem?
   intro i
   rw[seg_getElem?]
   split
   ·rename_i hi;exact hcell i hi
   ·rename_i hi;rw[List.getElem?_eq_none (by omega)]
  ·simp at hv0
 ·simp at h
theorem HK {row:Array Value} {off m n:Nat}:seg row off (m+n)=seg row off m++seg row (off+m) n:=by
 unfold seg
 rw[List.take_add,drop_drop]
section
variable {P:Program} {E:Av} {w:World} {H:Type} {enc:TypeId × Value→H}
theorem Ii {t:Nat} {d:TD} (h:JA P E t d):P.cellsOf t=d.sz:=by
 obtain ⟨i,z,h1,h2,-⟩:=h.info
 unfold Program.cellsOf
 simp[h1,h2]
theorem R.fields {Fz:Nat→Prop} {n:Nat} (hE:Cx P E) {read:Nat→List Value→Option (DataW H × List MemPlace)} {cs:List Value} (hread:∀ ty d vs x,E.ty ty=some d→read ty vs=some x→C4 E n ty=true→∃ ts,R w Fz noLt 0 (shares d.own) ts vs []∧WT E ty ts) :
  ∀ {fields:List Field} {fs:List (Nat × Nat)} {o:Nat} {ps:List Pm} {xs},fields.map (fun f=>(f.offset,f.type))=fs→Kj E o fs ps=true→(∀ f∈fs,C4 E n f.2=true) →
   fields.mapM (fun f=>read f.type ((cs.drop f.offset).take (P.cellsOf f.type)))=some xs→∃ ts,R w Fz noLt 0 (shares ps) ts ((cs.drop o).take ps.length) []∧WTf E fs ts:=by
 intro fields
 induction fields with
 | nil =>
   intro fs o ps xs hfs hb _ _
   simp only[map_nil] at hfs
   subst hfs
   cases ps with
   | nil=>exact ⟨[],by simpa [shares] using R.nil,.nil⟩
   | cons=>simp[Kj] at hb
 | cons f fields ih =>
   intro fs o ps xs hfs hb hp hm
   simp only[map_cons] at hfs
   subst hfs
   simp only[Kj,zB,Nat.beq_eq] at hb
   obtain ⟨h1,hb⟩:=hb
   split at hb
   ·rename_i d hd
    simp only[zB,Nat.ble_eq] at hb
    obtain ⟨⟨hb1,hb2⟩,hb3⟩:=hb
    have hb2:=pbeqs_eq hb2
    simp only[mapM_cons,Option.bind_eq_bind] at hm
    cases hr:read f.type ((cs.drop f.offset).take (P.cellsOf f.type)) with
    | none=>simp[hr] at hm
    | some x =>
      cases hl:fields.mapM (fun f=>read f.type ((cs.drop f.offset).take (P.cellsOf f.type))) with
      | none=>simp[hr,hl] at hm
      | some ys =>
        obtain ⟨ts1,r1,w1⟩:=hread _ d _ x hd hr (hp (f.offset,f.type) (by simp))
        obtain ⟨ts2,r2,w2⟩:=ih rfl hb3 (fun f hf=>hp f (mem_cons_of_mem _ hf)) hl
        refine ⟨ts1++ts2,?_,.cons w1 w2⟩
        have hsz:=Ii (hE _ _ hd)
        rw[hsz,h1] at r1
        have es:shares ps=shares d.own++shares (ps.drop d.sz):=by rw[← JL,← hb2,take_append_drop]
        have e2:(cs.drop o).take ps.length=(cs.drop o).take d.sz++(cs.drop (o+d.sz)).take (ps.drop d.sz).length:=by
         have:ps.length=d.sz+(ps.drop d.sz).length:=by rw[length_drop];omega
         rw[this,List.take_add,drop_drop]
        rw[es,e2]
        exact r1.append r2
   ·simp at hb
theorem cC {Fz:Nat→Prop} (hE:Cx P E) (hFz:∀ b,b<w.heap.size→Fz b) {spare:Nat→Bool}:∀ {fuel n t:Nat} {cs:List Value} {d:TD} {x},E.ty t=some d→C4 E n t=true→DataW.trod enc P w 0 spare true fuel t cs=some x →
  ∃ ts,R w Fz noLt 0 (shares d.own) ts cs []∧WT E t ts:=by
 intro fuel
 induction fuel with
 | zero=>intro n t cs d x _ _ h;simp[DataW.trod] at h
 | succ fuel ih =>
   intro n t cs d x hd hp h
   cases n with
   | zero=>simp[C4] at hp
   | succ n =>
     simp only[C4,hd,zB] at hp
     obtain ⟨ho,hk⟩:=hp
     obtain ⟨u,hu,hkd,-⟩:=(hE t d hd).und
     simp only[DataW.trod,hu] at h
     unfold H5 at hkd
     cases hkk:d.kd with
     | int k =>
       simp only[hkk] at hkd
       subst hkd
       simp only[Td,hkk] at ho
       rw[pbeqs_eq ho]
       split at h <;>try (simp_all;done)
       rename_i k1 k' m hcs
       simp only[zS,TypeDesc.int.injEq] at hcs
       subst hcs
       split at h
       ·rename_i hc
        obtain ⟨rfl,hw⟩:=hc
        simp only[Lit.wf,zB,decide_eq_true_eq] at hw
        exact ⟨[.int k' m],.leaf rfl .nil,.int hd hkk hw.1 hw.2⟩
       ·simp at h
     | flt k =>
       simp only[hkk] at hkd
       subst hkd
       simp only[Td,hkk] at ho
       rw[pbeqs_eq ho]
       split at h <;>try (simp_all;done)
       rename_i k1 k' m hcs
       simp only[zS,TypeDesc.float.injEq] at hcs
       subst hcs
       split at h
       ·rename_i hc
        obtain ⟨rfl,hw⟩:=hc
        refine ⟨[.flt k' (As k' m)],.leaf ⟨m,rfl,rfl⟩ .nil,.flt hd hkk (T8 _ _) ?_⟩
        unfold As
        split
        ·cases k' <;>rfl
        ·exact hw
       ·simp at h
     | bool =>
       simp only[hkk] at hkd
       subst hkd
       simp only[Td,hkk] at ho
       rw[pbeqs_eq ho]
       split at h <;>try (simp_all;done)
       rename_i b _
       exact ⟨[.bool b],.leaf rfl .nil,.bool hd hkk⟩
     | str =>
       simp only[hkk] at hkd
       subst hkd
       simp only[Td,hkk] at ho
       rw[pbeqs_eq ho]
       split at h <;>try (simp_all;done)
       rename_i s _
       split at h
       ·rename_i hl
        exact ⟨[.str s.data.toList],.leaf rfl .nil,.str hd hkk (by simpa using hl)⟩
       ·simp at h
     | slc e =>
       simp only[hkk] at hkd hk
       obtain ⟨rfl,-⟩:=hkd
       simp only[Td,hkk] at ho
       split at ho
       ·rename_i de hde
        rw[pbeqs_eq ho]
        have hsz:=Ii (hE e de hde)
        have hpos:=(hE e de hde).pos
        have hlen:=(hE e de hde).len
        split at h <;>try (simp_all;done)
        ·exact ⟨[.lst 0 []],.slE (by simp) .nil,.slc hd hkk (Nat.zero_le _) .nil⟩
        ·rename_i e1 a len cap hcs
         simp only[zS,TypeDesc.slice.injEq] at hcs
         subst hcs
         split at h
         ·rename_i hc
          obtain ⟨-,hlc,hcm⟩:=hc
          simp only[Option.bind_eq_some_iff] at h
          obtain ⟨elems,he,-⟩:=h
          obtain ⟨-,hel⟩:=LS he
          have hat:∀ i,i<len→∃ vs y,w.cells? 0 (a.add (i * de.sz)) de.sz=some vs∧DataW.trod enc P w 0 spare true fuel e vs=some y:=by
           intro i hi
           obtain ⟨y,-,hy⟩:=hel i i (by simp[hi])
           simp only[hsz,Option.bind_eq_some_iff] at hy
           obtain ⟨vs,h1,h2⟩:=hy
           exact ⟨vs,y,h1,h2⟩
          rcases Nat.eq_zero_or_pos len with rfl | hl
          ·exact ⟨[.lst 0 []],.slE (by simp) .nil,.slc hd hkk (Nat.zero_le _) .nil⟩
          ·obtain ⟨vs0,-,hc0,-⟩:=hat 0 hl
           obtain ⟨row,ety,fr,hb,hsp,-,-⟩:=Mm hc0 hpos
           simp only[Nat.zero_mul,Addr.add,if_true] at hb hsp
           have hcell:∀ i,i<len→∃ y,DataW.trod enc P w 0 spare true fuel e (seg row (a.off+i * de.sz) de.sz)=some y∧a.off+i * de.sz+de.sz≤row.size:=by
            intro i hi
            obtain ⟨vs,y,h1,h2⟩:=hat i hi
            obtain ⟨row',ety',fr',k1,-,k3,k4⟩:=Mm h1 hpos
            have hblk:(a.add (i * de.sz)).block=a.block:=by unfold Addr.add;split <;>rfl
            have hoff:(a.add (i * de.sz)).off=a.off+i * de.sz:=by unfold Addr.add;split <;>simp_all
            rw[hblk,hb] at k1
            obtain ⟨rfl,-,-⟩:row=row'∧ety=ety'∧fr=fr' :=by simpa using k1
            rw[hoff] at k3 k4
            exact ⟨y,k3 ▸ h2,k4⟩
           have hall:∀ m,m≤len→∃ ts,R w Fz noLt 0 (rep m (shares de.own)) ts (seg row a.off (m * de.sz)) []∧WTs E e m ts:=by
            intro m
            induction m with
            | zero=>intro _;exact ⟨[],by simpa [rep,seg] using R.nil,.nil⟩
            | succ m ihm =>
              intro hm
              obtain ⟨ts,r1,w1⟩:=ihm (by omega)
              obtain ⟨y,hy,-⟩:=hcell m (by omega)
              obtain ⟨c,r2,w2⟩:=ih hde hk hy
              refine ⟨ts++c,?_,.snoc w1 w2⟩
              rw[En,CX,Nat.add_mul,Nat.one_mul,HK]
              exact r1.append r2
           obtain ⟨ts,r1,w1⟩:=hall len (Nat.le_refl _)
           obtain ⟨y,-,hsize⟩:=hcell (len - 1) (by omega)
           have hsz2:a.off+len * de.sz≤row.size:=by
            have:(len - 1) * de.sz+de.sz=len * de.sz:=by
             obtain ⟨m,rfl⟩:∃ m,len=m+1:=⟨len - 1,by omega⟩
             rw[Nat.add_sub_cancel,Nat.add_mul,Nat.one_mul]
            omega
           refine ⟨[.lst len ts],?_,.slc hd hkk (Nat.le_trans hlc hcm) w1⟩
           have hb':a.block<w.heap.size:=by
            rcases Nat.lt_or_ge a.block w.heap.size with h' | h'
            ·exact h'
            ·simp[h'] at hb
           have hsh:(shares de.own).length=de.sz:=by rw[AP,hlen]
           have:=R.slS (Fz:=Fz) (Lt:=noLt) (g:=0) (ps:=[]) (ts:=[]) (vs:=[]) (fp:=[]) (b:=a.block) (off:=a.off) (n:=len) (cap:=cap) (el:=shares de.own) (by rw[hsh];exact hpos) hb (hFz _ hb') hlc rfl (by rw[hsh];exact hsz2)
            (by rw[hsh];exact r1) .nil
           obtain ⟨ab,ao,asp⟩:=a
           simp only at hsp
           subst hsp
           exact this
         ·simp at h
       ·simp at ho
     | st fs =>
       simp only[hkk] at hkd hk
       obtain ⟨fields,rfl,hfs⟩:=hkd
       simp only[Td,hkk] at ho
       split at h <;>try (simp_all;done)
       rename_i fs1 hcs
       simp only[zS,TypeDesc.struct.injEq] at hcs
       subst hcs
       split at h
       ·rename_i hlen
        simp only[Option.map_eq_some_iff] at h
        obtain ⟨xs,hxs,-⟩:=h
        obtain ⟨ts,r1,w1⟩:=R.fields (n:=n) (Fz:=Fz) hE (read:=fun ty vs=>DataW.trod enc P w 0 spare true fuel ty vs) (fun ty d vs x h1 h2 h3=>ih h1 h3 h2) hfs ho (by simpa using hk) hxs
        refine ⟨ts,?_,.st hd hkk w1⟩
        rw[drop_zero,(hE t d hd).len,← Ii (hE t d hd),← hlen,take_length] at r1
        exact r1
       ·simp at h
     | ptr e=>simp[hkk] at hk
     | other=>simp[hkk] at hk
end
def br {α:Type} (b:Bool) (x y:Option α):Option α:=match b with
 | true=>x
 | false=>y
def gd {α:Type} (b:Bool) (x:Option α):Option α:=match b with
 | true=>x
 | false=>none
def bd {α β:Type} (o:Option α) (k:α→Option β):Option β:=match o with
 | none=>none
 | some a=>k a
theorem BY {α:Type} {b:Bool} {x:Option α} {r:α} (h:gd b x=some r):b=true∧x=some r:=by
 cases b
 ·simp[gd] at h
 ·exact ⟨rfl,h⟩
theorem DR {α β:Type} {o:Option α} {k:α→Option β} {r:β} (h:bd o k=some r):∃ a,o=some a∧k a=some r:=by
 cases o with
 | none=>simp[bd] at h
 | some a=>exact ⟨a,rfl,h⟩
theorem P2 {α:Type} {b:Bool} {x y:Option α} {r:α} (h:br b x y=some r):(b=true∧x=some r)∨(b=false∧y=some r):=by
 cases b
 ·exact .inr ⟨rfl,h⟩
 ·exact .inl ⟨rfl,h⟩
inductive CK where
 | int (k:IntKind)
 | flt (k:FloatKind)
 | bool
 | str
 | lst
 | bad
def dR:T→CK
 | .int k _ => .int k
 | .flt k _ => .flt k
 | .bool _ => .bool
 | .str _ => .str
 | .lst _ _ => .lst
 | _ => .bad
def FA (cs:List T) (j:Nat):Int:=match cs[j]? with
 | some (.int _ n)=>n
 | _=>0
def CY (cs:List T) (j:Nat):Nat:=match cs[j]? with
 | some (.flt _ x)=>x
 | _=>0
def KD (cs:List T) (j:Nat):Bool:=match cs[j]? with
 | some (.bool b)=>b
 | _=>false
def iy (cs:List T) (j:Nat):List UInt8:=match cs[j]? with
 | some (.str s)=>s
 | _=>[]
def HP (cs:List T) (j:Nat):Nat:=match cs[j]? with
 | some (.lst n _)=>n
 | _=>0
def H1 (cs:List T) (j:Nat):List T:=match cs[j]? with
 | some (.lst _ l)=>l
 | _=>[]
def Ml (k:CK) (t:T):Bool:=match k,t with
 | .int k,.int k' _=>k==k'
 | .flt k,.flt k' _=>k==k'
 | .bool,.bool _=>true
 | .str,.str _=>true
 | .lst,.lst _ _=>true
 | _,_=>false
def AR:List CK→List T→Nat→Bool
 | [],_,_=>true
 | k::ks,cs,j=>(match cs[j]? with
   | some t=>Ml k t
   | none=>false)&&AR ks cs (j+1)
def UE (k:CK) (cs:List T) (j:Nat):T:=match k with
 | .int k => .int k (FA cs j)
 | .flt k => .flt k (CY cs j)
 | .bool => .bool (KD cs j)
 | .str => .str (iy cs j)
 | .lst => .lst (HP cs j) (H1 cs j)
 | .bad => .nil
def KX:List CK→List T→Nat→List T
 | [],_,_=>[]
 | k::ks,cs,j=>UE k cs j::KX ks cs (j+1)
theorem Vv {k:CK} {cs:List T} {j:Nat} {t:T} (h:cs[j]?=some t) (hk:Ml k t=true):UE k cs j=t:=by
 cases k <;>cases t <;>simp[Ml] at hk <;>simp[UE,FA,CY,KD,iy,HP,H1,h,hk]
theorem Jm:∀ {ks:List CK} {cs:List T} {j:Nat},AR ks cs j=true→Dp cs j ks.length=some (KX ks cs j)
 | [],_,_,_=>rfl
 | k::ks,cs,j,h=>by
   simp only[AR,zB] at h
   obtain ⟨h1,h2⟩:=h
   split at h1
   ·rename_i t ht
    simp only[length_cons,Dp,ht,Jm h2,KX,Vv ht h1]
   ·simp at h1
inductive BK where
 | int (n:Int)
 | flt (x:Nat)
 | bool (b:Bool)
 | str (s:List UInt8)
 | lst (n:Nat) (cs:List T)
 | nat (n:Nat)
mutual
def XW:T→T→List BK→Option (List BK)
 | .int k _,.int k' n,r=>if k=k' then some (.int n::r) else none
 | .bool _,.bool b,r=>some (.bool b::r)
 | .flt k _,.flt k' x,r=>if k=k' then some (.flt x::r) else none
 | .str _,.str s,r=>some (.str s::r)
 | .nil,.nil,r=>some r
 | .opq,.opq,r=>some r
 | .lst _ _,.lst n cs,r=>some (.lst n cs::r)
 | .ref ps,.ref cs,r=>mtTs ps cs r
 | .fn f ps,.fn f' cs,r=>if f=f' then mtTs ps cs r else none
 | _,_,_=>none
def mtTs:List T→List T→List BK→Option (List BK)
 | [],[],r=>some r
 | p::ps,t::ts,r=>match mtTs ps ts r with
   | none=>none
   | some r=>XW p t r
 | _,_,_=>none
end
mutual
def fG:T→List BK→Option (T × List BK)
 | .int k _,.int n::r=>some (.int k n,r)
 | .bool _,.bool b::r=>some (.bool b,r)
 | .flt k _,.flt x::r=>some (.flt k x,r)
 | .str _,.str s::r=>some (.str s,r)
 | .nil,r=>some (.nil,r)
 | .opq,r=>some (.opq,r)
 | .lst _ _,.lst n cs::r=>some (.lst n cs,r)
 | .ref ps,r=>match flTs ps r with
   | none=>none
   | some (cs,r)=>some (.ref cs,r)
 | .fn f ps,r=>match flTs ps r with
   | none=>none
   | some (cs,r)=>some (.fn f cs,r)
 | _,_=>none
def flTs:List T→List BK→Option (List T × List BK)
 | [],r=>some ([],r)
 | p::ps,r=>match fG p r with
   | none=>none
   | some (t,r)=>match flTs ps r with
     | none=>none
     | some (ts,r)=>some (t::ts,r)
end
mutual
theorem bq:∀ {p t:T} {r ls:List BK},XW p t r=some ls→fG p ls=some (t,r)
 | .int k _,t,r,ls,h=>by cases t <;>simp[XW] at h;obtain ⟨rfl,rfl⟩:=h;rfl
 | .bool _,t,r,ls,h=>by cases t <;>simp[XW] at h;subst h;rfl
 | .flt k _,t,r,ls,h=>by cases t <;>simp[XW] at h;obtain ⟨rfl,rfl⟩:=h;rfl
 | .str _,t,r,ls,h=>by cases t <;>simp[XW] at h;subst h;rfl
 | .nil,t,r,ls,h=>by cases t <;>simp[XW] at h;subst h;rfl
 | .opq,t,r,ls,h=>by cases t <;>simp[XW] at h;subst h;rfl
 | .lst _ _,t,r,ls,h=>by cases t <;>simp[XW] at h;subst h;rfl
 | .ref ps,t,r,ls,h=>by
   cases t <;>simp only[XW] at h <;>try (simp at h;done)
   simp only[fG,mtTs_fl h]
 | .fn f ps,t,r,ls,h=>by
   cases t <;>simp only[XW] at h <;>try (simp at h;done)
   split at h
   ·rename_i e;subst e
    simp only[fG,mtTs_fl h]
   ·simp at h
theorem mtTs_fl:∀ {ps ts:List T} {r ls:List BK},mtTs ps ts r=some ls→flTs ps ls=some (ts,r)
 | [],ts,r,ls,h=>by cases ts <;>simp[mtTs] at h;subst h;rfl
 | p::ps,ts,r,ls,h=>by
   cases ts with
   | nil=>simp[mtTs] at h
   | cons t ts =>
     simp only[mtTs] at h
     split at h
     ·simp at h
     ·rename_i r' h'
      simp only[flTs,bq h,mtTs_fl h']
end
def LO:List (Nat × Nat)→List (Nat × Nat)→Bool
 | [],[]=>true
 | a::as,b::bs=>Nat.beq a.1 b.1&&Nat.beq a.2 b.2&&LO as bs
 | _,_=>false
theorem PB:∀ {a b:List (Nat × Nat)},LO a b=true→a=b
 | [],[],_=>rfl
 | [],_::_,h=>by simp[LO] at h
 | _::_,[],h=>by simp[LO] at h
 | a::as,b::bs,h=>by
   simp only[LO,zB,Nat.beq_eq] at h
   obtain ⟨⟨h1,h2⟩,h3⟩:=h
   rw[PB h3,show a=b from Prod.ext h1 h2]
def QS:Do→Do→Bool
 | [],[]=>true
 | _,_=>false
def Xw (p q:AX) (r:List BK):Option (List BK) :=
 match p.path,q.path with
 | [],[]=>if Nat.beq p.e q.e&&Nat.beq p.c q.c&&Nat.beq p.n q.n&&p.agg==q.agg then some r else none
 | [x],[y]=>if Nat.beq x.1 y.1&&Nat.beq x.2 y.2&&Nat.beq p.c q.c&&Nat.beq p.n q.n&&p.agg==q.agg then some (.nat q.e::r) else none
 | _,_=>none
def Yt (p:AX) (r:List BK):Option (AX × List BK) :=
 match p.path,r with
 | [],r=>some (p,r)
 | [x],.nat e::r=>some (⟨[x],e,p.c,p.n,p.agg⟩,r)
 | _,_=>none
theorem Qb {p q:AX} {r ls:List BK} (h:Xw p q r=some ls):Yt p ls=some (q,r):=by
 obtain ⟨pp,pe,pc,pn,pa⟩:=p
 obtain ⟨qp,qe,qc,qn,qa⟩:=q
 unfold Xw at h
 simp only at h
 split at h
 ·split at h
  ·rename_i hc
   simp only[zB,Nat.beq_eq,beq_iff_eq] at hc
   obtain ⟨⟨⟨rfl,rfl⟩,rfl⟩,rfl⟩:=hc
   simp only[zS] at h
   subst h;rfl
  ·simp at h
 ·rename_i x y
  split at h
  ·rename_i hc
   simp only[zB,Nat.beq_eq,beq_iff_eq] at hc
   obtain ⟨⟨⟨⟨h1,h2⟩,rfl⟩,rfl⟩,rfl⟩:=hc
   obtain rfl:x=y:=Prod.ext h1 h2
   simp only[zS] at h
   subst h;rfl
  ·simp at h
 ·simp at h
def Jh:List (Nat × AX)→List (Nat × AX)→List BK→Option (List BK)
 | [],[],r=>some r
 | p::ps,q::qs,r=>match Jh ps qs r with
   | none=>none
   | some r=>if Nat.beq p.1 q.1 then Xw p.2 q.2 r else none
 | _,_,_=>none
def QV:List (Nat × AX)→List BK→Option (List (Nat × AX) × List BK)
 | [],r=>some ([],r)
 | p::ps,r=>match Yt p.2 r with
   | none=>none
   | some (q,r)=>match QV ps r with
     | none=>none
     | some (qs,r)=>some ((p.1,q)::qs,r)
theorem PY:∀ {ps qs:List (Nat × AX)} {r ls:List BK},Jh ps qs r=some ls→QV ps ls=some (qs,r)
 | [],[],r,ls,h=>by simp[Jh] at h;subst h;rfl
 | [],_::_,_,_,h=>by simp[Jh] at h
 | _::_,[],_,_,h=>by simp[Jh] at h
 | p::ps,q::qs,r,ls,h=>by
   simp only[Jh] at h
   split at h
   ·simp at h
   ·rename_i r' h'
    split at h
    ·rename_i e
     have e:p.1=q.1:=by simpa using e
     simp only[QV,Qb h,PY h',e]
    ·simp at h
def fJ:AA→AA→List BK→Option (List BK)
 | .dead,.dead,r=>some r
 | .und,.und,r=>some r
 | .gone,.gone,r=>some r
 | .val a p cs d pin,.val a' p' cs' d' pin',r=>if a==a'&&pbeqs p p'&&QS d d'&&Nat.beq pin pin' then mtTs cs cs' r else none
 | .box p cs d pin,.box p' cs' d' pin',r=>if pbeqs p p'&&QS d d'&&Nat.beq pin pin' then mtTs cs cs' r else none
 | .view k pl,.view k' pl',r=>if Nat.beq k k' then Xw pl pl' r else none
 | .ptr k pl,.ptr k' pl',r=>if Nat.beq k k' then Xw pl pl' r else none
 | .clo f caps,.clo f' caps',r=>if Nat.beq f f' then Jh caps caps' r else none
 | _,_,_=>none
def ay:AA→List BK→Option (AA × List BK)
 | .dead,r=>some (.dead,r)
 | .und,r=>some (.und,r)
 | .gone,r=>some (.gone,r)
 | .val a p cs _ pin,r=>match flTs cs r with
   | none=>none
   | some (cs,r)=>some (.val a p cs [] pin,r)
 | .box p cs _ pin,r=>match flTs cs r with
   | none=>none
   | some (cs,r)=>some (.box p cs [] pin,r)
 | .view k pl,r=>match Yt pl r with
   | none=>none
   | some (pl,r)=>some (.view k pl,r)
 | .ptr k pl,r=>match Yt pl r with
   | none=>none
   | some (pl,r)=>some (.ptr k pl,r)
 | .clo f caps,r=>match QV caps r with
   | none=>none
   | some (caps,r)=>some (.clo f caps,r)
 | _,_=>none
theorem aZ {p s:AA} {r ls:List BK} (h:fJ p s r=some ls):ay p ls=some (s,r):=by
 unfold fJ at h
 split at h
 ·simp only[zS] at h;subst h;rfl
 ·simp only[zS] at h;subst h;rfl
 ·simp only[zS] at h;subst h;rfl
 ·rename_i a p cs d pin a' p' cs' d' pin'
  split at h
  ·rename_i hc
   simp only[zB,Nat.beq_eq,beq_iff_eq] at hc
   obtain ⟨⟨⟨rfl,h2⟩,h3⟩,rfl⟩:=hc
   obtain rfl:=pbeqs_eq h2
   have:d=[]∧d'=[]:=by cases d <;>cases d' <;>simp[QS] at h3;exact ⟨rfl,rfl⟩
   obtain ⟨rfl,rfl⟩:=this
   simp only[ay,mtTs_fl h]
  ·simp at h
 ·rename_i p cs d pin p' cs' d' pin'
  split at h
  ·rename_i hc
   simp only[zB,Nat.beq_eq] at hc
   obtain ⟨⟨h2,h3⟩,rfl⟩:=hc
   obtain rfl:=pbeqs_eq h2
   have:d=[]∧d'=[]:=by cases d <;>cases d' <;>simp[QS] at h3;exact ⟨rfl,rfl⟩
   obtain ⟨rfl,rfl⟩:=this
   simp only[ay,mtTs_fl h]
  ·simp at h
 ·split at h
  ·rename_i hc
   simp only[Nat.beq_eq] at hc
   subst hc
   simp only[ay,Qb h]
  ·simp at h
 ·split at h
  ·rename_i hc
   simp only[Nat.beq_eq] at hc
   subst hc
   simp only[ay,Qb h]
  ·simp at h
 ·split at h
  ·rename_i hc
   simp only[Nat.beq_eq] at hc
   subst hc
   simp only[ay,PY h]
  ·simp at h
 ·simp at h
def M6:List (Nat × AA)→List (Nat × AA)→List BK→Option (List BK)
 | [],[],r=>some r
 | p::ps,q::qs,r=>match M6 ps qs r with
   | none=>none
   | some r=>if Nat.beq p.1 q.1 then fJ p.2 q.2 r else none
 | _,_,_=>none
def UL:List (Nat × AA)→List BK→Option (List (Nat × AA) × List BK)
 | [],r=>some ([],r)
 | p::ps,r=>match ay p.2 r with
   | none=>none
   | some (q,r)=>match UL ps r with
     | none=>none
     | some (qs,r)=>some ((p.1,q)::qs,r)
theorem R2:∀ {ps qs:List (Nat × AA)} {r ls:List BK},M6 ps qs r=some ls→UL ps ls=some (qs,r)
 | [],[],r,ls,h=>by simp[M6] at h;subst h;rfl
 | [],_::_,_,_,h=>by simp[M6] at h
 | _::_,[],_,_,h=>by simp[M6] at h
 | p::ps,q::qs,r,ls,h=>by
   simp only[M6] at h
   split at h
   ·simp at h
   ·rename_i r' h'
    split at h
    ·rename_i e
     have e:p.1=q.1:=by simpa using e
     simp only[UL,aZ h,R2 h',e]
    ·simp at h
def O1 (p σ:AS):Option (List BK):=if Nat.beq p.g σ.g then M6 p.env σ.env [] else none
def U4 (p:AS) (ls:List BK):AS:=match UL p.env ls with
 | some (env,_)=>⟨env,p.g⟩
 | none=>p
theorem Qo {p σ:AS} {ls:List BK} (h:O1 p σ=some ls):U4 p ls=σ:=by
 unfold O1 at h
 split at h
 ·rename_i e
  have e:p.g=σ.g:=by simpa using e
  unfold U4
  rw[R2 h,e]
 ·simp at h
def dh (p v:V) (r:List BK):Option (List BK):=if p.agg==v.agg&&pbeqs p.p v.p then mtTs p.cs v.cs r else none
def dq (p:V) (r:List BK):Option (V × List BK):=match flTs p.cs r with
 | none=>none
 | some (cs,r)=>some (⟨p.agg,p.p,cs⟩,r)
theorem TY {p v:V} {r ls:List BK} (h:dh p v r=some ls):dq p ls=some (v,r):=by
 unfold dh at h
 split at h
 ·rename_i hc
  simp only[zB,beq_iff_eq] at hc
  obtain ⟨h1,h2⟩:=hc
  unfold dq
  rw[mtTs_fl h]
  obtain ⟨a,b,c⟩:=p
  obtain ⟨a',b',c'⟩:=v
  simp only at h1 h2
  subst h1
  obtain rfl:=pbeqs_eq h2
  rfl
 ·simp at h
def Hh:List Aa→List Aa→List BK→Option (List BK)
 | [],[],r=>some r
 | p::ps,q::qs,r=>match Hh ps qs r with
   | none=>none
   | some r=>if p.m.beq q.m then dh p.v q.v r else none
 | _,_,_=>none
def Q2:List Aa→List BK→Option (List Aa × List BK)
 | [],r=>some ([],r)
 | p::ps,r=>match dq p.v r with
   | none=>none
   | some (v,r)=>match Q2 ps r with
     | none=>none
     | some (qs,r)=>some (⟨p.m,v⟩::qs,r)
theorem Cn.beq_eq {a b:Cn} (h:a.beq b=true):a=b:=by cases a <;>cases b <;>simp[Cn.beq] at h <;>rfl
theorem PO:∀ {ps qs:List Aa} {r ls:List BK},Hh ps qs r=some ls→Q2 ps ls=some (qs,r)
 | [],[],r,ls,h=>by simp[Hh] at h;subst h;rfl
 | [],_::_,_,_,h=>by simp[Hh] at h
 | _::_,[],_,_,h=>by simp[Hh] at h
 | p::ps,q::qs,r,ls,h=>by
   simp only[Hh] at h
   split at h
   ·simp at h
   ·rename_i r' h'
    split at h
    ·rename_i e
     have e:=Cn.beq_eq e
     simp only[Q2,TY h,PO h',e]
    ·simp at h
def Gg (p:List Aa) (ls:List BK):List Aa:=match Q2 p ls with
 | some (as,_)=>as
 | none=>p
theorem Yb {p as:List Aa} {ls:List BK} (h:Hh p as []=some ls):Gg p ls=as:=by
 unfold Gg;rw[PO h]
def Tn:List V→List V→List BK→Option (List BK)
 | [],[],r=>some r
 | p::ps,q::qs,r=>match Tn ps qs r with
   | none=>none
   | some r=>dh p q r
 | _,_,_=>none
def Yj:List V→List BK→Option (List V × List BK)
 | [],r=>some ([],r)
 | p::ps,r=>match dq p r with
   | none=>none
   | some (v,r)=>match Yj ps r with
     | none=>none
     | some (vs,r)=>some (v::vs,r)
theorem Ul:∀ {ps qs:List V} {r ls:List BK},Tn ps qs r=some ls→Yj ps ls=some (qs,r)
 | [],[],r,ls,h=>by simp[Tn] at h;subst h;rfl
 | [],_::_,_,_,h=>by simp[Tn] at h
 | _::_,[],_,_,h=>by simp[Tn] at h
 | p::ps,q::qs,r,ls,h=>by
   simp only[Tn] at h
   split at h
   ·simp at h
   ·rename_i r' h'
    simp only[Yj,TY h,Ul h']
def MM:List (Option V)→List (Option V)→List BK→Option (List BK)
 | [],[],r=>some r
 | none::ps,none::qs,r=>MM ps qs r
 | some p::ps,some q::qs,r=>match MM ps qs r with
   | none=>none
   | some r=>dh p q r
 | _,_,_=>none
def Vg:List (Option V)→List BK→Option (List (Option V) × List BK)
 | [],r=>some ([],r)
 | none::ps,r=>match Vg ps r with
   | none=>none
   | some (vs,r)=>some (none::vs,r)
 | some p::ps,r=>match dq p r with
   | none=>none
   | some (v,r)=>match Vg ps r with
     | none=>none
     | some (vs,r)=>some (some v::vs,r)
theorem QF:∀ {ps qs:List (Option V)} {r ls:List BK},MM ps qs r=some ls→Vg ps ls=some (qs,r)
 | [],[],r,ls,h=>by simp[MM] at h;subst h;rfl
 | [],_::_,_,_,h=>by simp[MM] at h
 | none::_,[],_,_,h=>by simp[MM] at h
 | some _::_,[],_,_,h=>by simp[MM] at h
 | none::_,some _::_,_,_,h=>by simp[MM] at h
 | some _::_,none::_,_,_,h=>by simp[MM] at h
 | none::ps,none::qs,r,ls,h=>by
   simp only[MM] at h
   simp only[Vg,QF h]
 | some p::ps,some q::qs,r,ls,h=>by
   simp only[MM] at h
   split at h
   ·simp at h
   ·rename_i r' h'
    simp only[Vg,TY h,QF h']
def iZ (p v:Dv):Option (List BK):=match MM p.outs v.outs [] with
 | none=>none
 | some r=>Tn p.rs v.rs r
def ey (p:Dv) (ls:List BK):Dv:=match Yj p.rs ls with
 | none=>p
 | some (rs,r)=>match Vg p.outs r with
   | none=>p
   | some (os,_)=>⟨rs,os⟩
theorem cH {p v:Dv} {ls:List BK} (h:iZ p v=some ls):ey p ls=v:=by
 unfold iZ at h
 split at h
 ·simp at h
 ·rename_i r hr
  unfold ey
  rw[Ul h]
  simp only[QF hr]
end Go.Desk
end
section
namespace Go.Desk
open Go Go.ChangeShapes Go.RowKit
inductive EE (E:Av):List Nat→List Aa→Prop
 | nil:EE E [] []
 | cons {t tys d ts as} (hd:E.ty t=some d) (hw:WT E t ts) (r:EE E tys as):EE E (t::tys) (⟨.val,⟨d.agg,shares d.own,ts⟩⟩::as)
section
variable {P:Program} {E:Av} {w:World} {H:Type} {enc:TypeId × Value→H}
theorem Q7 {t:Nat} {d:TD} (hT:JA P E t d) {n:Nat} (hp:C4 E n t=true) (hd:E.ty t=some d) {r:Reach} {base:Nat} {v:Value} (h:Value.okWide P w r base t v):AD d.agg v v.cells.toList:=by
 cases n with
 | zero=>simp[C4] at hp
 | succ n =>
   simp only[C4,hd,zB] at hp
   obtain ⟨-,hk⟩:=hp
   obtain ⟨u,hu,hkd,hag⟩:=hT.und
   unfold H5 at hkd
   cases hkk:d.kd with
   | int k =>
     simp only[hkk] at hkd
     subst hkd
     simp only[Value.okWide,hu,Cell.okWide] at h
     rw[← hag]
     cases v <;>simp_all [Cell.ok,Fi,AD,Value.cells]
   | flt k =>
     simp only[hkk] at hkd
     subst hkd
     simp only[Value.okWide,hu,Cell.okWide] at h
     rw[← hag]
     cases v <;>simp_all [Cell.ok,Fi,AD,Value.cells]
   | bool =>
     simp only[hkk] at hkd
     subst hkd
     simp only[Value.okWide,hu,Cell.okWide] at h
     rw[← hag]
     cases v <;>simp_all [Cell.ok,Fi,AD,Value.cells]
   | str =>
     simp only[hkk] at hkd
     subst hkd
     simp only[Value.okWide,hu,Cell.okWide] at h
     rw[← hag]
     cases v <;>simp_all [Cell.ok,Fi,AD,Value.cells]
   | slc e =>
     simp only[hkk] at hkd
     obtain ⟨rfl,-⟩:=hkd
     simp only[Value.okWide,hu,Cell.okWide] at h
     rw[← hag]
     cases v <;>simp_all [Cell.ok,Fi,AD,Value.cells]
   | st fs =>
     simp only[hkk] at hkd
     obtain ⟨fields,rfl,-⟩:=hkd
     simp only[Value.okWide,hu] at h
     obtain ⟨cs,rfl,-⟩:=h
     rw[← hag]
     simp[Fi,AD,Value.cells]
   | ptr e=>simp[hkk] at hk
   | other=>simp[hkk] at hk
theorem Sp (hE:Cx P E) {N:Nat} {r:Reach} {base:Nat}:∀ {tys:List Nat} {args:List Value} {ds:List (DataW H)} {p:List MemPlace},DataW.TrodAll enc P w 0 (fun _=>true) true tys args ds p→(tys.all fun t=>C4 E N t)=true →
  (∀ (j:Nat) t v,tys[j]?=some t→args[j]?=some v→Value.okWide P w r base t v)→∃ as,EE E tys as∧D4 w (fun b=>b<w.heap.size) as args []
 | [],args,ds,p,h,_,_=>by
   cases args <;>cases ds <;>simp[DataW.TrodAll] at h
   exact ⟨[],.nil,.nil⟩
 | t::tys,args,ds,p,h,hp,hv=>by
   obtain ⟨v,vs,d,ds',p1,q1,rfl,rfl,rfl,h1,h2⟩:=trodAll_cons h
   simp only[all_cons,zB] at hp
   obtain ⟨as,a1,a2⟩:=Sp hE h2 hp.2 (fun j t v h3 h4=>hv (j+1) t v (by simpa using h3) (by simpa using h4))
   have hp1:=hp.1
   obtain ⟨td,htd⟩:∃ td,E.ty t=some td:=by
    cases N with
    | zero=>simp[C4] at hp1
    | succ n =>
      simp only[C4] at hp1
      cases ht:E.ty t with
      | none=>simp[ht] at hp1
      | some td=>exact ⟨td,rfl⟩
   obtain ⟨fuel,hf⟩:=h1
   obtain ⟨ts,hR,hW⟩:=cC (Fz:=fun b=>b<w.heap.size) hE (fun _ h=>h) htd hp1 hf
   exact ⟨_,.cons htd hW a1,.val (v:=⟨td.agg,shares td.own,ts⟩) (Q7 (hE t td htd) hp1 htd (hv 0 t v rfl rfl)) hR a2⟩
theorem JN (hl:laidOutB P=true) {W W':World} (bel:Below W.heap.size W W'):∀ {tys:List Nat} {args:List Value} {ds:List (DataW H)} {p:List MemPlace},(tys.all fun t=>P.readableRec t&&decide (t<P.types.size))=true →
  DataW.TrodAll enc P W 0 (fun _=>true) true tys args ds p→DataW.TrodAll enc P W' 0 (fun b=>decide (b<W.heap.size)) true tys args ds p
 | [],args,ds,p,_,h=>by
   cases args <;>cases ds <;>simp[DataW.TrodAll] at h ⊢
   exact h
 | t::tys,args,ds,p,hr,h=>by
   obtain ⟨v,vs,d,ds',p1,q1,rfl,rfl,rfl,h1,h2⟩:=trodAll_cons h
   simp only[all_cons,zB,decide_eq_true_eq] at hr
   have lt:∀ x∈p1,x.block<W.heap.size:=by
    obtain ⟨m,hm⟩:=h1
    exact DataW.trod_lt m _ _ _ hm
   exact trodAll_cons_mk (Below.trod hl hr.1.1 hr.1.2 h1 bel lt) (JN hl bel hr.2 h2)
theorem Lp {b:Nat} {sp:Nat→Bool} {hd:Bool}:∀ {tys:List Nat} {args:List Value} {ds:List (DataW H)} {p:List MemPlace},DataW.TrodAll enc P w b sp hd tys args ds p→ds.length=tys.length
 | [],args,ds,p,h=>by
   cases args <;>cases ds <;>simp[DataW.TrodAll] at h
   rfl
 | t::tys,args,ds,p,h=>by
   obtain ⟨v,vs,d,ds',p1,q1,rfl,rfl,rfl,h1,h2⟩:=trodAll_cons h
   simp[Lp h2]
theorem law_contract {f:Nat} {fn:Func} {s:ChangeSpec} {tb:Nat} {c:Code} (hm:P.follows .mixedOrders=true) (hE:Cx P E) (hT:∀ f fd,E.fn f=some fd→Cb P E f fd)
  (hf : P.funcs[f]? = some fn) (hname : (fn.name == "runtime.NumGoroutine") = false) (hb : fn.body = some c) (hres : fn.resultTypes = #[tb]) (htb : P.underlying tb = some .bool) (hvars : s.vars = [])
  (hspec:∀ ds:List (DataW H),ds.length=fn.params.toList.length→s.fn H ds = { results:=[.lit (.bool true)],args:=ds }) (hl:laidOutB P=true) {N:Nat} (hp:(fn.params.toList.all fun t=>C4 E N t)=true)
  (hr:(fn.params.toList.all fun t=>P.readableRec t&&decide (t<P.types.size))=true)
  (law:∀ as,EE E fn.params.toList as→∃ N os,Ab E N f as=some ⟨[⟨false,[.leaf],[.bool true]⟩],os⟩)
  {W:World} {base:Nat} {args:Array Value} {ds gs:List (DataW H)} {before:List MemPlace} (hval:∀ (j:Nat) t v,fn.params[j]?=some t→args[j]?=some v→Value.okWide P W .any base t v)
  (hW:DataW.Whole enc P fn.params.toList s.vars false W args.toList ds gs before) :
  Calls P f args W fun e W'=>∃ v,e = .returned v∧s.post enc P fn false true false false W args v W' :=by
 have hW' :=hW
 obtain ⟨p,q,hA,hV,rfl,hfz,hnd⟩:=hW
 rw[hvars] at hV
 obtain ⟨rfl,rfl⟩:=trodVars_none hV
 obtain ⟨as,hlaw,hargs⟩:=Sp (r:=.any) (base:=base) hE hA hp (fun j t v h1 h2=>hval j t v (by simpa using h1) (by simpa using h2))
 obtain ⟨n,os,hev⟩:=law as hlaw
 have hok:=Ir hm hE hT n f as _ hev W (fun b=>b<W.heap.size) args.toList [] hargs (by simp) (fun _ h=>h)
 have hrun:(callFunc f args.toList.toArray).run P W = .ok (.enter f args.toList.toArray) W:=by
  have h1 : fn.name ≠ "runtime.NumGoroutine" := by simpa using hname
  simp[callFunc,hf,h1,hb]
 rcases hok with ⟨v,w',h1,-⟩ | ⟨-,hc⟩
 ·rw[hrun] at h1;simp at h1
 ·have ea:args.toList.toArray=args:=by simp
  rw[ea] at hc
  refine hc.mono fun e w' he => ?_
  cases e with
  | returned v =>
    obtain ⟨hx,Lt,g,fr,fo,hR,hO,-⟩:=he
    refine ⟨v,rfl,?_⟩
    obtain ⟨xs,hRs,hxs⟩:=hR
    simp only at hxs
    subst hxs
    cases hRs with
    | cons hcells hR1 hr1 =>
      have:=Aw hcells
      subst this
      cases hR1 with
      | leaf hl1 _ =>
        simp only[AJ] at hl1
        subst hl1
        have bel:Below W.heap.size W w' :=hx.below (by simp[Mut]) (Nat.le_refl _)
        rw[hvars] at hW'
        have hlen:=Lp hA
        have hs:=hspec ds hlen
        refine ⟨ds,[],p++[],[],p,[],by rw[hvars];exact hW',?_,?_,?_,bel.frame _,fun h=>by cases h⟩
        ·rw[append_nil,hs,hres]
         exact trodAll_mk1 (shut_bool htb true)
        ·rw[append_nil,hs]
         exact JN hl bel hr hA
        ·rw[hvars,append_nil,hs];rfl
  | panicked chain=>exact he.elim
  | outgrown=>exact he.elim
end
def Wn:T→T→Bool
 | .int k n,.int k' n'=>k==k'&&n==n'
 | .bool b,.bool b'=>b==b'
 | .flt k x,.flt k' x'=>k==k'&&x==x'
 | .str [],.str []=>true
 | .nil,.nil=>true
 | .lst 0 [],.lst 0 []=>true
 | _,_=>false
theorem XU {a b:T} (h:Wn a b=true):a=b:=by
 unfold Wn at h
 split at h <;>simp_all
def Lj:List T→List T→Bool
 | [],[]=>true
 | a::as,b::bs=>Wn a b&&Lj as bs
 | _,_=>false
theorem Pe:∀ {a b:List T},Lj a b=true→a=b
 | [],[],_=>rfl
 | [],_::_,h=>by simp[Lj] at h
 | _::_,[],h=>by simp[Lj] at h
 | a::as,b::bs,h=>by
   simp only[Lj,zB] at h
   rw[XU h.1,Pe h.2]
def fu (E:Av) (d:TD) (u:TypeDesc):Bool:=match d.kd,u with
 | .int k,.int k'=>k==k'
 | .flt k,.float k'=>k==k'
 | .bool,.bool=>true
 | .str,.string=>true
 | .slc e,.slice e'=>Nat.beq e e'&&match E.ty e with
   | some de=>pbeqs d.own [.sl .own de.own]
   | none=>false
 | .ptr e,.pointer e'=>Nat.beq e e'
 | .st fs,.struct fields=>LO (fields.toList.map fun f=>(f.offset,f.type)) fs
 | .other,_=>true
 | _,_=>false
theorem bU {E:Av} {d:TD} {u:TypeDesc} (h:fu E d u=true):H5 E d u:=by
 unfold fu at h
 unfold H5
 split at h
 ·rename_i hk;simp only[hk];simp_all
 ·rename_i hk;simp only[hk];simp_all
 ·rename_i hk;simp only[hk]
 ·rename_i hk;simp only[hk]
 ·rename_i e e' hk
  simp only[hk]
  simp only[zB,Nat.beq_eq] at h
  obtain ⟨rfl,h⟩:=h
  refine ⟨rfl,?_⟩
  split at h
  ·rename_i de hde
   exact ⟨de,hde,pbeqs_eq h⟩
  ·simp at h
 ·rename_i e e' hk;simp only[hk];simp_all
 ·rename_i fs fields hk
  simp only[hk]
  exact ⟨fields,rfl,PB h⟩
 ·rename_i hk;simp only[hk]
 ·simp at h
def gV (P:Program) (E:Av) (t:Nat) (d:TD):Bool :=
 (match P.info? t with
 | some i=>Nat.beq i.size d.sz&&Nat.beq i.bytes d.bytes&&(match i.zero with
   | some z=>(match EM z.cells.toList with
     | some ts=>Lj ts d.zero
     | none=>false)&&(match d.agg,z with
       | true,.agg _=>true
       | false,z=>z.oneCell'
       | _,_=>false)
   | none=>false)
 | none=>false)&&Ht d.own d.zero&&Nat.beq d.own.length d.sz&&Nat.blt 0 d.sz&&(match P.underlying t with
 | some u=>fu E d u&&(Fi u==d.agg)&&(match u with
   | .struct fields=>fields.toList.all fun f=>(P.info? f.type).isSome
   | _=>true)
 | none=>false)
theorem bx {P:Program} {E:Av} {t:Nat} {d:TD} (h:gV P E t d=true):JA P E t d:=by
 unfold gV at h
 simp only[zB,Nat.beq_eq] at h
 obtain ⟨⟨⟨⟨h1,h2⟩,h3⟩,h4⟩,h5⟩:=h
 refine ⟨?_,h2,h3,by simpa using h4,?_,?_⟩
 ·split at h1
  ·rename_i i hi
   simp only[zB,Nat.beq_eq] at h1
   obtain ⟨⟨a1,a2⟩,a3⟩:=h1
   split at a3
   ·rename_i z hz
    simp only[zB] at a3
    obtain ⟨b1,b2⟩:=a3
    split at b1
    ·rename_i ts hts
     refine ⟨i,z,hi,a1,a2,hz,by rw[hts,Pe b1],?_⟩
     split at b2
     ·rename_i cs hag;rw[hag];exact ⟨cs,rfl⟩
     ·rename_i z' hag;rw[hag];exact PX b2
     ·simp at b2
    ·simp at b1
   ·simp at a3
  ·simp at h1
 ·split at h5
  ·rename_i u hu
   simp only[zB,beq_iff_eq] at h5
   exact ⟨u,hu,bU h5.1.1,h5.1.2⟩
  ·simp at h5
 ·intro fields hu f hf
  rw[hu] at h5
  simp only[zB,all_eq_true] at h5
  exact h5.2 f hf
def MD:List (Nat × TD)→Nat→Option TD
 | [],_=>none
 | (i,d)::r,t=>match Nat.beq i t with
   | true=>some d
   | false=>MD r t
def HA:List (Nat × FD)→Nat→Option FD
 | [],_=>none
 | (i,d)::r,t=>match Nat.beq i t with
   | true=>some d
   | false=>HA r t
theorem WA {l:List (Nat × TD)} {t:Nat} {d:TD} (h:MD l t=some d):(t,d)∈l:=by
 induction l with
 | nil=>simp[MD] at h
 | cons x l ih =>
   obtain ⟨i,d'⟩:=x
   simp only[MD] at h
   split at h
   ·rename_i e
    have e:i=t:=by simpa using e
    simp only[zS] at h
    subst e h;simp
   ·exact mem_cons_of_mem _ (ih h)
theorem Mj {P:Program} {E:Av} {l:List (Nat × TD)} (hE:∀ t,E.ty t=MD l t) (h:(l.all fun x=>gV P E x.1 x.2)=true):Cx P E:=by
 intro t d ht
 rw[hE] at ht
 rw[all_eq_true] at h
 exact bx (h _ (WA ht))
inductive Jg (P:Program) (E:Av):List (Nat × FD)→Prop
 | nil:Jg P E []
 | cons {f fd l} (h:Cb P E f fd) (t:Jg P E l):Jg P E ((f,fd)::l)
theorem OD {P:Program} {E:Av} {l:List (Nat × FD)} (hE:∀ f,E.fn f=HA l f) (h:Jg P E l):∀ f fd,E.fn f=some fd→Cb P E f fd:=by
 intro f fd hf
 rw[hE] at hf
 clear hE
 induction h with
 | nil=>simp[HA] at hf
 | cons h t ih =>
   simp only[HA] at hf
   split at hf
   ·rename_i e
    have e:=Nat.beq_eq.mp e
    simp only[zS] at hf
    subst e hf;exact h
   ·exact ih hf
theorem Js {P : Program} {E : Av} {f : Nat} {fn : Func} {c : Code} {modes : List Cn} {outs : List Nat} {results : List (Nat × Option (Bool × Nat))} {keep : List (Nat × List Nat)} (hf : P.funcs[f]? = some fn) (hn : (fn.name == "runtime.NumGoroutine") = false) (hb : fn.body = some c)
  (h:UZ E fn c modes outs results=true):Cb P E f (.code c modes outs results keep):=⟨fn,hf,hn,hb,h⟩
def Jt:List Pm→List T→List (Nat × Nat)→Option (Bool × List Pm × List T)
 | ps,cs,[]=>some (true,ps,cs)
 | ps,cs,(e,c)::path=>match ps[c]? with
   | some (.sl .own el)=>match Jt el (H1 cs (ix ps.length e c)) path with
     | none=>none
     | some (g,r)=>some (g&&AR [.lst] cs (ix ps.length e c),r)
   | _=>none
def GJ (ps:List Pm) (cs:List T):List (Nat × Nat)→Option (Bool × List Pm × List T)
 | []=>some (true,ps,cs)
 | (e,c)::path=>match ps[c]? with
   | some (.sl .own el)=>match cs[ix ps.length e c]? with
     | some (.lst _ cs')=>Jt el cs' path
     | _=>none
   | _=>none
def Ey (ks:List CK) (ps:List Pm) (cs:List T) (pl:AX):Option (Bool × V) :=
 match pl.path with
 | []=>match atPlace ps cs pl with
   | none=>none
   | some v=>some (true,v)
 | path=>match GJ ps cs path with
   | none=>none
   | some (g,el,rcs)=>match Nat.beq ks.length pl.n with
     | false=>none
     | true=>match Ck el pl.c pl.n with
       | none=>none
       | some p=>some (g&&AR ks rcs (ix el.length pl.e pl.c),⟨pl.agg,p,KX ks rcs (ix el.length pl.e pl.c)⟩)
def Iz (E:Av) (t:Nat):Option (List CK):=match E.ty t with
 | none=>none
 | some d=>some (d.zero.map dR)
def bw (E:Av) (ty:Nat) (r:Ro):Option (Bool × Option V) :=
 match r with
 | .slot _ (.view _ pl) root=>match root.root with
   | none=>some (true,none)
   | some (p,cs,d)=>match EG d pl with
     | true=>some (true,none)
     | false=>match Iz E ty with
       | none=>none
       | some ks=>match Ey ks p cs pl with
         | none=>none
         | some (g,v)=>some (g,some v)
 | r=>some (true,Ag E ty r)
def Zo {β:Type} (E:Av) (ty:Nat) (r:Ro) (k:V→Option β):Option β:=match bw E ty r with
 | some (g,some v)=>gd g (k v)
 | _=>none
def FI {β:Type} (E:Av) (ty:Nat) (r:Ro) (k:T→Option β):Option β:=Zo E ty r fun v=>match v with
 | ⟨false,[.leaf],[t]⟩=>k t
 | _=>none
def BD (k:FloatKind) (x y:Nat):Nat:=match k.format.add x y with
 | some b=>b
 | none=>EW k
def BW (k:FloatKind) (x y:Nat):Nat:=match k.format.sub x y with
 | some b=>b
 | none=>EW k
def AT (k:FloatKind) (x y:Nat):Nat:=match k.format.mul x y with
 | some b=>b
 | none=>EW k
def fdiv (k:FloatKind) (x y:Nat):Nat:=match k.format.div x y with
 | some b=>b
 | none=>EW k
def RQ (k:FloatKind) (x y:Nat):Bool:=k.format.order x y==some .eq
def Uj (k:FloatKind) (x y:Nat):Bool:=k.format.order x y != some .eq
def flt (k:FloatKind) (x y:Nat):Bool:=k.format.order x y==some .lt
def UM (k:FloatKind) (x y:Nat):Bool:=k.format.order x y==some .lt||k.format.order x y==some .eq
def H2 (k:FloatKind) (x y:Nat):Bool:=k.format.order x y==some .gt
def LH (k:FloatKind) (x y:Nat):Bool:=k.format.order x y==some .gt||k.format.order x y==some .eq
def iz (m:Bool) (k:FloatKind) (x y:Nat):Nat:=match k.format.order x y with
 | none=>EW k
 | some .lt=>if m then y else x
 | some .gt=>if m then x else y
 | some .eq=>if (k.decode x).neg==m then y else x
def cF (op:BinOp) (k:FloatKind) (x y:Nat):Option T:=match op with
 | .add=>some (.flt k (BD k x y))
 | .sub=>some (.flt k (BW k x y))
 | .mul=>some (.flt k (AT k x y))
 | .quo=>some (.flt k (fdiv k x y))
 | .eql=>some (.bool (RQ k x y))
 | .neq=>some (.bool (Uj k x y))
 | .lss=>some (.bool (flt k x y))
 | .leq=>some (.bool (UM k x y))
 | .gtr=>some (.bool (H2 k x y))
 | .geq=>some (.bool (LH k x y))
 | _=>none
def cL (x:Option T):Option (Bool × T):=match x with
 | none=>none
 | some t=>some (true,t)
def bg (op:BinOp):T→T→Option (Bool × T)
 | .int k x,.int k' y=>match op with
   | .shl=>some (decide (0≤y),.int k (k.wrap (x * 2 ^ min y.toNat k.bits)))
   | .shr=>some (decide (0≤y),.int k (x.fdiv (2 ^ min y.toNat k.bits)))
   | .quo=>if k=k' then some (!decide (y=0),.int k (k.wrap (x.tdiv y))) else none
   | .rem=>if k=k' then some (!decide (y=0),.int k (x.tmod y)) else none
   | op=>cL (Ci op (.int k x) (.int k' y))
 | .flt k x,.flt k' y=>if k=k' then cL (cF op k x y) else none
 | .str a,.str b=>match op with
   | .add=>some (decide (a.length+b.length≤4611686018427387904),.str (a++b))
   | op=>cL (Ci op (.str a) (.str b))
 | u,v=>cL (Ci op u v)
def WX {β:Type} (kd:Kd) (u:T) (k:T→Option β):Option β:=match kd,u with
 | .int k',.flt s x=>bd (Da s x k') fun n=>k (.int k' n)
 | .flt k',.flt s x=>bd (Aj s x k') fun y=>k (.flt k' y)
 | kd,u=>match MA kd u with
   | none=>none
   | some t=>k t
def RF (m:Bool):T→T→Option T
 | .flt k x,.flt k' y=>if k=k' then some (.flt k (iz m k x y)) else none
 | u,v=>J3 m u v
def H9 (m:Bool) (t:T):List T→Option T
 | []=>some t
 | u::us=>match RF m t u with
   | none=>none
   | some r=>H9 m r us
def Ge (o:Oper) (t:T):CB:=⟨AQ o (.val false [.leaf] [t] [] 0),none⟩
structure BF where
 cf : {β:Type}→Nat→List Aa→(Dv→Option β)→Option β
 lp : {β:Type}→Nat→AS→(Ex→AS→Option β)→Option β
def fall {β:Type} (x:Option (CB × Bool)) (k:CB→Bool→Option β):Option β:=match x with
 | none=>none
 | some (out,u)=>k out u
def KH {β:Type} (x:Option CB) (u:Bool) (k:CB→Bool→Option β):Option β:=match x with
 | none=>none
 | some out=>k out u
def WN {β:Type} (E:Av) (o:Oper) (t:Nat) (r:Ro) (k:CB→Bool→Option β):Option β :=
 match E.ty t with
 | none=>none
 | some d=>match Bm r with
   | some (j,pl,root)=>match root.root with
     | none=>none
     | some (p,cs,_)=>match Ey (d.zero.map dR) p cs { pl with n:=d.sz,agg:=d.agg } with
       | none=>none
       | some (g,v)=>gd g (if noOwns v.p then k ⟨AQ o (Yi v),none⟩ false else k ⟨AQ o (.view j { pl with n:=d.sz,agg:=d.agg }),none⟩ false)
   | none=>KH (Gi E o t r) false k
def TV {β:Type} (E:Av) (o:Oper) (s:Nat) (r:Ro) (f:Nat) (k:CB→Bool→Option β):Option β :=
 match r with
 | .slot _ (.view j pl) _=>match pl.path with
   | []=>KH (Hg E o s r f) false k
   | _=>match E.ty s with
     | none=>none
     | some d=>match d.kd with
       | .st fs=>match fs[f]? with
         | none=>none
         | some (off,ty)=>match E.ty ty with
           | none=>none
           | some d'=>Zo E s r fun v=>match v.agg with
             | false=>none
             | true=>match Ck v.p off d'.sz with
               | none=>none
               | some p=>match Dp v.cs off d'.sz with
                 | none=>none
                 | some c=>if noOwns p then k ⟨AQ o (.val d'.agg p c [] 0),none⟩ false else k ⟨AQ o (.view j { pl with c:=pl.c+off,n:=d'.sz,agg:=d'.agg }),none⟩ false
       | _=>none
 | r=>KH (Hg E o s r f) false k
def Pi (E:Av) (t:Nat):Option (List CK):=match E.ty t with
 | none=>none
 | some d=>match d.kd with
   | .slc e=>Iz E e
   | _=>none
def KB {β:Type} (E:Av) (g:Nat) (o:Oper) (t:Nat) (r ri:Ro) (iTy:Nat) (k:CB→Bool→Option β):Option β :=
 FI E iTy ri fun ti=>match ti with
 | .int _ i=>Zo E t r fun v=>match v with
   | ⟨false,[.sl fl el],[.lst n cs]⟩=>match FE E t el.length&&fl.live g with
     | false=>none
     | true=>match fl with
       | .own=>match r with
         | .slot _ (.view j pl) _=>gd (decide (0≤i∧i<(n:Int))) (k ⟨AQ o (.ptr j ⟨pl.path++[(pl.e,pl.c)],i.toNat,0,el.length,false⟩),none⟩ true)
         | .slot j _ _=>gd (decide (0≤i∧i<(n:Int))) (k ⟨AQ o (.ptr j ⟨[(0,0)],i.toNat,0,el.length,false⟩),none⟩ true)
         | _=>none
       | fl=>match Pi E t with
         | none=>none
         | some ks=>match Nat.beq ks.length el.length with
           | false=>none
           | true=>gd (decide (0≤i∧i<(n:Int))&&AR ks cs (ix el.length i.toNat 0)) (k ⟨AQ o (.val false [.rf fl el] [.ref (KX ks cs (ix el.length i.toNat 0))] [] 0),none⟩ true)
   | _=>none
 | _=>none
def WS (s:List UInt8) (j:Nat):Int:=match s[j]? with
 | some b=>b.toNat
 | none=>0
def T3 {β:Type} (E:Av) (o:Oper) (t:Nat) (r ri:Ro) (iTy:Nat) (k:CB→Bool→Option β):Option β :=
 FI E iTy ri fun ti=>match ti with
 | .int _ i=>FI E t r fun ts=>match ts with
   | .str s=>match K2 E t with
     | false=>none
     | true=>gd (decide (0≤i∧i<(s.length:Int))) (k (Ge o (.int .u8 (WS s i.toNat))) false)
   | _=>none
 | _=>none
def Jl {β:Type} (E:Av) (o:Oper) (t:Nat) (l:Ro) (lTy:Nat) (k:CB→Bool→Option β):Option β :=
 match E.ty t with
 | some d=>match d.kd with
   | .slc e=>match E.ty e with
     | none=>none
     | some de=>FI E lTy l fun tl=>match tl with
       | .int .i64 n=>match Nat.ble de.bytes 1024 with
         | false=>none
         | true=>gd (decide (0≤n∧n≤(lim:Int))) (k ⟨AQ o (.val false [.sl .own de.own] [.lst n.toNat (reps n.toNat de.zero)] [] 0),none⟩ false)
       | _=>none
   | _=>none
 | none=>none
def LI {β:Type} (E:Av) (ty:Nat) (d:Int) (r:Option Ro) (k:Int→Option β):Option β:=match r with
 | none=>k d
 | some r=>FI E ty r fun t=>match t with
   | .int _ n=>k n
   | _=>none
def LK {β:Type} (E:Av) (o:Oper) (t:Nat) (r:Ro) (lo hi:Option Ro) (iTy:Nat) (g:Nat) (k:CB→Bool→Option β):Option β :=
 Zo E t r fun v=>match v with
 | ⟨false,[.leaf],[.str s]⟩=>LI E iTy 0 lo fun l=>LI E iTy s.length hi fun h=>match K2 E t with
   | false=>none
   | true=>gd (decide (0≤l∧l≤h∧h≤(s.length:Int))) (k ⟨AQ o (.val false [.leaf] [.str ((s.drop l.toNat).take (h.toNat - l.toNat))] [] 0),none⟩ true)
 | ⟨false,[.sl fl el],[.lst n cs]⟩=>LI E iTy 0 lo fun l=>LI E iTy n hi fun h=>match FE E t el.length&&fl.live g with
   | false=>none
   | true=>gd (decide (0≤l∧l≤h∧h≤(n:Int))) (
      let c:T:=.lst (h.toNat - l.toNat) ((cs.drop (ix el.length l.toNat 0)).take (ix el.length (h.toNat - l.toNat) 0))
      match fl with
      | .shr=>k ⟨AQ o (.val false [.sl .shr el] [c] [] 0),none⟩ true
      | .lent g'=>k ⟨AQ o (.val false [.sl (.lent g') el] [c] [] 0),none⟩ true
      | .own=>match noOwns el || !BE el with
        | true=>k ⟨AQ o (.val false [.sl (.lent g) (lentifies g el)] [c] [] 0),none⟩ true
        | false=>match r with
          | .slot _ (.view kk pl) root=>match pl.path with
            | []=>match root.root with
              | none=>none
              | some (p,rcs,d)=>k ⟨AQ o (.val false [.mv g el] [c] [] 0)++[(kk,root.withRoot p (AF rcs (ix p.length pl.e pl.c) [.lst n (DL el l.toNat (h.toNat - l.toNat) cs)]) (([pl.c],0,el.length)::d))],none⟩ true
            | _=>none
          | _=>none)
 | _=>none
def cI {β:Type} (E:Av) (g:Nat) (o:Oper) (t:Nat) (r:Ro) (k:CB→Bool→Option β):Option β :=
 Zo E t r fun v=>match v with
 | ⟨false,[.leaf],[.str s]⟩=>if K2 E t then k (Ge o (.int .i64 s.length)) true else none
 | ⟨false,[.sl fl el],[.lst n _]⟩=>if FE E t el.length&&fl.live g then k (Ge o (.int .i64 n)) true else none
 | _=>none
def MX (f:List T→List T):List Pm→List T→List (Nat × Nat)→List T
 | _,cs,[]=>f cs
 | ps,cs,(e,c)::path=>match ps[c]? with
   | some (.sl .own el)=>cs.set (ix ps.length e c) (.lst (HP cs (ix ps.length e c)) (MX f el (H1 cs (ix ps.length e c)) path))
   | _=>cs
def Hd (f:List T→List T) (ps:List Pm) (cs:List T):List (Nat × Nat)→List T
 | []=>f cs
 | (e,c)::path=>match ps[c]? with
   | some (.sl .own el)=>match cs[ix ps.length e c]? with
     | some (.lst n cs')=>cs.set (ix ps.length e c) (.lst n (MX f el cs' path))
     | _=>cs
   | _=>cs
def ci {β:Type} (b:Option Bool) (x:Option β):Option β:=match b with
 | none=>x
 | some b=>gd b x
def ZN (a b:Option Bool):Option Bool:=match a with
 | none=>b
 | some x=>match b with
   | none=>some x
   | some y=>some (x&&y)
def Ih (root:AA) (pl:AX) (hs:List T) (n:Nat):Option (Bool × AA) :=
 match root.root with
 | none=>none
 | some (p,cs,d)=>match GJ p cs pl.path with
   | none=>none
   | some (g,el,_)=>some (g,root.withRoot p (Hd (fun rcs=>AF rcs (ix el.length pl.e pl.c) hs) p cs pl.path) ((F3 pl.path,pl.c,n)::d))
def NN (E:Av) (g:Nat) (ty:Nat) (r:Ro):Option (Option Bool × V × List (Nat × AA)) :=
 match r with
 | .slot t (.view j pl) root=>match pl.path with
   | []=>match Hx E g ty (.slot t (.view j pl) root) with
     | none=>none
     | some (v,us)=>some (none,v,us)
   | _=>match Nat.ble pl.n 0 with
     | true=>none
     | false=>match bw E ty (.slot t (.view j pl) root) with
       | some (gg,some v)=>match A8 g v.p with
         | false=>none
         | true=>match noOwns v.p with
           | true=>none
           | false=>match DB v.p v.cs with
             | none=>none
             | some hs=>match Ih root pl hs pl.n with
               | none=>none
               | some (g2,s)=>some (some (gg&&g2),v,[(j,s)])
       | _=>none
 | r=>match Hx E g ty r with
   | none=>none
   | some (v,us)=>some (none,v,us)
def GE (E:Av) (g:Nat) (tys:Nat→Option Nat):List (Nat × Ro)→Option (Option Bool × List (Nat × V) × List (Nat × AA))
 | []=>some (none,[],[])
 | (i,r)::rest=>match tys i with
   | none=>none
   | some ty=>match NN E g ty r with
     | none=>none
     | some (gg,v,u)=>match GE E g tys rest with
       | none=>none
       | some (g2,vs,us)=>some (ZN gg g2,(i,v)::vs,u++us)
def IB {β:Type} (E:Av) (g:Nat) (o:Oper) (t len:Nat) (parts:List (Nat × Ro)) (k:CB→Bool→Option β):Option β :=
 match E.ty t with
 | some d=>match d.kd with
   | .slc e=>match E.ty e with
     | none=>none
     | some de=>if Nat.ble (len * de.sz) 65536 then (match GE E g (fun _=>some e) parts with
       | none=>none
       | some (gg,vs,us)=>match Pu (FP de.own vs) (fun i=>some (i * de.sz,de.sz)) (reps len de.zero) vs with
         | none=>none
         | some cs=>if Cj (us.map (·.1)) then ci gg (k ⟨AQ o (.val false [.sl .own (FP de.own vs)] [.lst len cs] [] 0)++us,none⟩ true) else none) else none
   | _=>none
 | none=>none
def LZ (E:Av) (t1:Nat) (s:Ro):Option (Option Bool × Nat × List T × List Pm × List (Nat × AA)) :=
 match s with
 | .slot t (.view j pl) root=>match pl.path with
   | []=>match GL E t1 (.slot t (.view j pl) root) with
     | none=>none
     | some r=>some (none,r)
   | _=>match root.pinned with
     | true=>none
     | false=>match bw E t1 (.slot t (.view j pl) root) with
       | some (gg,some ⟨false,[.sl .own el],[.lst n cs]⟩)=>match Ih root pl [.nil] 1 with
         | none=>none
         | some (g2,s)=>some (some (gg&&g2),n,cs,el,[(j,s)])
       | _=>none
 | s=>match GL E t1 s with
   | none=>none
   | some r=>some (none,r)
def LG (E:Av) (g t2:Nat) (x:Ro):Option (Bool × Nat × List T × List Pm × List (Nat × AA)) :=
 match x with
 | .slot t (.view j pl) root=>match pl.path with
   | []=>match GI E g t2 (.slot t (.view j pl) root) with
     | none=>none
     | some r=>some (true,r)
   | _=>match bw E t2 (.slot t (.view j pl) root) with
     | some (gg,some ⟨false,[.sl fl el],[.lst m cs]⟩)=>if FE E t2 el.length∧fl.live g then (if noOwns el then some (gg,m,cs,el,[]) else none) else none
     | _=>none
 | x=>match GI E g t2 x with
   | none=>none
   | some r=>some (true,r)
def Qp {β:Type} (E:Av) (g:Nat) (o:Oper) (t1 t2:Nat) (s x:Ro) (k:CB→Bool→Option β):Option β :=
 match E.ty t1 with
 | some d=>match d.kd with
   | .slc e=>match E.ty e with
     | none=>none
     | some de=>match LZ E t1 s with
       | none=>none
       | some (g1,n,cs,el,us)=>match LG E g t2 x with
         | none=>none
         | some (gg,m,cs',el',us')=>match UQ n el el'&&A8 g el'&&Cj ((us++us').map (·.1))&&Nat.ble de.bytes 1024&&el'.length==de.sz with
           | false=>none
           | true=>ci g1 (gd (gg&&Nat.ble (n+m) lim) (k ⟨AQ o (.val false [.sl .own el'] [.lst (n+m) (cs++cs')] [] 0)++(us++us'),none⟩ true))
   | _=>none
 | none=>none
def TP {β:Type} (E:Av) (g:Nat) (t:Nat) (r x:Ro) (k:CB→Bool→Option β):Option β :=
 match Bm r with
 | none=>none
 | some (j,pl,root)=>match pl.path with
   | []=>match E.ty t with
     | none=>none
     | some d=>match root.root with
       | none=>none
       | some (p,cs,dd)=>match NN E g t x with
         | none=>none
         | some (gg,v,us)=>match Ck p pl.c d.sz with
           | none=>none
           | some _=>match Dp cs (ix p.length pl.e pl.c) d.sz with
             | none=>none
             | some _=>match v.cs.length==d.sz && !(us.any fun u=>u.1==j) && !root.pinned with
               | false=>none
               | true=>ci gg (k ⟨us++[(j,root.withRoot (CU p pl.c v.p) (AF cs pl.c v.cs) (([],pl.c,d.sz)::dd))],none⟩ true)
   | path=>match E.ty t with
     | none=>none
     | some d=>match root.root with
       | none=>none
       | some (p,cs,dd)=>match NN E g t x with
         | none=>none
         | some (g1,v,us)=>match GJ p cs path with
           | none=>none
           | some (gg,el,rcs)=>match Ck el pl.c d.sz with
             | none=>none
             | some q=>match v.cs.length==d.sz && !(us.any fun u=>u.1==j)&&pbeqs v.p q&&Nat.blt 0 d.sz with
               | false=>none
               | true=>ci g1 (gd (gg&&Nat.ble (ix el.length pl.e pl.c+d.sz) rcs.length)
                  (k ⟨us++[(j,root.withRoot p (Hd (fun rcs=>AF rcs (ix el.length pl.e pl.c) v.cs) p cs path) ((F3 path,pl.c,d.sz)::dd))],some (g+1)⟩ true))
def Qz {β:Type} (E:Av) (o:Oper) (r:Ro) (old:AA) (k:CB→Bool→Option β):Option β :=
 match r with
 | .slot t (.view j pl) root=>match pl.path with
   | []=>KH (Ew E o (.slot t (.view j pl) root) old) false k
   | path=>if old.pinned then none else match o.dst with
     | none=>none
     | some dst=>if t=dst then none else if j=dst then none else match root with
       | .val _ p cs d pin=>if pin != 0||EG d pl then none else if Nat.ble pl.n 0 then none else match Iz E o.type with
         | none=>none
         | some ks=>match Ey ks p cs pl with
           | none=>none
           | some (g,v)=>match GJ p cs path with
             | none=>none
             | some (gg,el,_)=>match DB v.p v.cs with
               | none=>none
               | some hs=>gd (g&&gg) (k ⟨[(dst,.val v.agg v.p v.cs CH 0),(j,root.withRoot p (Hd (fun rcs=>AF rcs (ix el.length pl.e pl.c) hs) p cs path) ((F3 path,pl.c,pl.n)::d))],none⟩ false)
       | .box p cs d _=>if EG d pl then none else if Nat.ble pl.n 0 then none else match Iz E o.type with
         | none=>none
         | some ks=>match Ey ks p cs pl with
           | none=>none
           | some (g,v)=>match GJ p cs path with
             | none=>none
             | some (gg,el,_)=>match DB v.p v.cs with
               | none=>none
               | some hs=>gd (g&&gg) (k ⟨[(dst,.val v.agg v.p v.cs CH 0),(j,root.withRoot p (Hd (fun rcs=>AF rcs (ix el.length pl.e pl.c) hs) p cs path) ((F3 path,pl.c,pl.n)::d))],none⟩ false)
       | _=>none
 | r=>KH (Ew E o r old) false k
def Mf {β:Type} (E:Av) (g:Nat) (o:Oper) (src dst:Nat) (r:Ro) (k:CB→Bool→Option β):Option β :=
 match E.ty dst with
 | none=>none
 | some d=>Zo E src r fun v=>match v with
   | ⟨false,[.leaf],[u]⟩=>if RC E src then WX d.kd u fun t=>k (Ge o t) true else none
   | ⟨false,[.sl fl [.leaf]],[.lst _ cs]⟩=>if Mc E src&&fl.live g then (match d.kd with
     | .str=>bd (Jk cs) fun bs=>k (Ge o (.str bs)) true
     | _=>none) else none
   | _=>none
def Sg (E:Av):List Nat→List Ro→Option (Bool × List (Option V))
 | ty::tys,r::rs=>match bw E ty r with
   | none=>none
   | some (g,o)=>match Sg E tys rs with
     | none=>none
     | some (g',os)=>some (g&&g',o::os)
 | _,_=>some (true,[])
def KV:List (Option V)→Bool
 | o::os=>(match o with
   | some v=>noLents v.p
   | none=>true)&&KV os
 | []=>true
def KJ:List Cn→List (Option V)→Bool
 | .val::ms,o::os=>(match o with
   | some v=>noOwns v.p&&noLents v.p
   | none=>false)&&KJ ms os
 | _::ms,_::os=>KJ ms os
 | _,_=>true
def UB (E:Av) (gm:Option Nat) (m:Cn) (ty:Nat) (r:Ro) (o:Option V):Option (Bool × Aa × List (Nat × AX)) :=
 match m with
 | .val=>match o with
   | some v=>some (true,⟨.val,⟨v.agg,shareBy gm v.p,v.cs⟩⟩,[])
   | none=>match r with
     | .slot _ (.ptr _ pl) root=>match pl.path with
       | []=>match Dy E gm .val ty r with
         | none=>none
         | some (a,ks)=>some (true,a,ks)
       | _=>match E.ty ty with
         | none=>none
         | some d=>match d.kd with
           | .ptr e=>match Iz E e with
             | none=>none
             | some ks=>match root.root with
               | none=>none
               | some (p,cs,dd)=>match CR dd pl with
                 | true=>none
                 | false=>match Ey ks p cs pl with
                   | none=>none
                   | some (g,v)=>match Nat.ble pl.n 0 with
                     | true=>none
                     | false=>some (g,⟨.val,⟨false,[.rf .shr (shareBy gm v.p)],[.ref v.cs]⟩⟩,[])
           | _=>none
     | r=>match Dy E gm .val ty r with
       | none=>none
       | some (a,ks)=>some (true,a,ks)
 | .io=>match Fc r with
   | none=>none
   | some (k,pl,root)=>match pl.path with
     | []=>match Dy E gm .io ty r with
       | none=>none
       | some (a,ks)=>some (true,a,ks)
     | _=>match root.root with
       | none=>none
       | some (p,cs,d)=>match EG d pl||Nat.ble pl.n 0 with
         | true=>none
         | false=>match Iz E ty with
           | none=>none
           | some ks=>match Ey ks p cs pl with
             | none=>none
             | some (g,v)=>match noLents v.p with
               | true=>some (g,⟨.io,v⟩,[(k,pl)])
               | false=>none
 | m=>match Dy E gm m ty r with
   | none=>none
   | some (a,ks)=>some (true,a,ks)
def Mp (a:Aa) (pl:AX) (root:AA) (v:V):Option (Bool × AA):=match pl.path with
 | []=>match Dj a pl root v with
   | none=>none
   | some s=>some (true,s)
 | path=>match a.m with
   | .io=>match root.root with
     | none=>none
     | some (p,cs,d)=>match pbeqs v.p a.v.p&&v.cs.length==pl.n with
       | false=>match Nc v.p&&v.p.length==pl.n&&v.cs.length==pl.n with
         | false=>none
         | true=>match DB a.v.p a.v.cs with
           | none=>none
           | some hs=>Ih root pl hs pl.n
       | true=>match GJ p cs path with
         | none=>none
         | some (g,el,_)=>some (g,root.withRoot p (Hd (fun rcs=>AF rcs (ix el.length pl.e pl.c) v.cs) p cs path) ((F3 path,pl.c,pl.n)::d))
   | _=>none
def Dx (roots:Nat→AA):List Aa→List (Nat × AX)→List V→Option (Bool × List (Nat × AA))
 | [],[],[]=>some (true,[])
 | a::as,ks,vs=>match a.m with
   | .val=>Dx roots as ks vs
   | _=>match ks,vs with
     | (k,pl)::ks,v::vs=>match Mp a pl (roots k) v with
       | none=>none
       | some (g,s)=>match Dx roots as ks vs with
         | none=>none
         | some (g',us)=>some (g&&g',(k,s)::us)
     | _,_=>none
 | _,_,_=>none
def EF (E:Av) (gm:Option Nat):List Cn→List Nat→List Ro→List (Option V)→Option (Bool × List Aa × List (Nat × AX))
 | [],[],[],_=>some (true,[],[])
 | m::ms,ty::tys,r::rs,o::os=>match UB E gm m ty r o with
   | none=>none
   | some (g,a,ks)=>match EF E gm ms tys rs os with
     | none=>none
     | some (g',as,ks')=>some (g&&g',a::as,ks++ks')
 | _,_,_,_=>none
def R4 {β:Type} (E:Av) (O:BF) (o:Oper) (f:Nat) (tys:List Nat) (rs:List Ro) (g:Nat) (k:CB→Bool→Option β):Option β :=
 match E.fn f with
 | none=>none
 | some fd=>match Sg E tys rs with
   | none=>none
   | some (g0,os) =>
     if (fd.modes rs.length).all JH then
      (if KV os then
        (match EF E none (fd.modes rs.length) tys rs os with
        | none=>none
        | some (g1,as,_)=>gd g0 (gd g1 (O.cf f as fun r=>if H0 (KJ (fd.modes rs.length) os) r.rs then k ⟨Ak o r.rs,none⟩ false else none)))
      else match EF E (some g) (fd.modes rs.length) tys rs os with
       | none=>none
       | some (g1,as,_)=>gd g0 (gd g1 (O.cf f as fun r=>if H0 false r.rs then k ⟨Ak o r.rs,none⟩ true else none)))
     else match EF E none (fd.modes rs.length) tys rs os with
      | none=>none
      | some (g1,as,ks) =>
        if Cj (ks.map (·.1)) && !((Di (fd.modes rs.length) rs).any fun k=>(ks.map (·.1)).any fun k'=>k==k') then
         gd g0 (gd g1 (O.cf f as fun r=>if H0 (KJ (fd.modes rs.length) os) r.rs&&H0 (KJ (fd.modes rs.length) os) (r.outs.filterMap id) then (match Dx (Cr rs) as ks (r.outs.filterMap id) with
          | none=>none
          | some (g2,us)=>gd g2 (if Cj ((Ak o r.rs++us).map (·.1)) then k ⟨Ak o r.rs++us,some (g+1)⟩ true else none)) else none))
        else none
def HZ {β:Type} (E:Av):List Nat→List Ro→(List T→Option β)→Option β
 | [],[],k=>k []
 | ty::tys,r::rs,k=>FI E ty r fun t=>HZ E tys rs fun ts=>k (t::ts)
 | _,_,_=>none
def fg {β:Type} (E:Av) (O:BF) (o:Oper) (rs:List Ro) (old:AA) (g:Nat) (k:CB→Bool→Option β):Option β :=
 match o.op,rs with
 | .pick _ _ _,[c,x,y]=>FI E 0 c fun t=>match t with
   | .bool b=>br b (KH (Cp E o x) false k) (KH (Cp E o y) false k)
   | _=>none
 | .load t _,[r]=>WN E o t r k
 | .assign _,[r]=>Qz E o r old k
 | .buildSlice t len parts,rs=>IB E g o t len ((parts.toList.map (·.1)).zip rs) k
 | .store t _ _,[r,x]=>if o.dst.isSome then none else TP E g t r x k
 | .binOp op xt _ _ yt,[x,y]=>FI E xt x fun u=>FI E yt y fun v=>if RV E xt u then (match bg op u v with
   | none=>none
   | some (gg,t)=>gd gg (k (Ge o t) false)) else none
 | .unOp op xt _,[x]=>FI E xt x fun u=>match Ze op u with
   | none=>none
   | some t=>k (Ge o t) false
 | .convert src dst _,[x]=>Mf E g o src dst x k
 | .makeSlice t l c,[x,_]=>if FC l c then Jl E o t x 0 k else none
 | .slice t _ lo hi none,r::rs=>match lo,hi,rs with
   | none,none,[]=>LK E o t r none none 0 g k
   | some _,none,[x]=>LK E o t r (some x) none 0 g k
   | none,some _,[y]=>LK E o t r none (some y) 0 g k
   | some _,some _,[x,y]=>LK E o t r (some x) (some y) 0 g k
   | _,_,_=>none
 | .field s _ f,[r]=>TV E o s r f k
 | .indexAddr t _ _,[r,i]=>KB E g o t r i 0 k
 | .index t _ _,[r,i]=>T3 E o t r i 0 k
 | .call c,rs=>match c.callee with
   | .builtin b=>match b,c.argTypes.toList,rs with
     | .len,[t],[r]=>cI E g o t r k
     | .append,[t1,t2],[s,x]=>Qp E g o t1 t2 s x k
     | .max,tys,rs=>HZ E tys rs fun ts=>match ts with
       | t::ts=>match H9 true t ts with
         | none=>none
         | some t=>k (Ge o t) false
       | _=>none
     | .min,tys,rs=>HZ E tys rs fun ts=>match ts with
       | t::ts=>match H9 false t ts with
         | none=>none
         | some t=>k (Ge o t) false
       | _=>none
     | _,_,_=>none
   | .value (.func f)=>R4 E O o f c.argTypes.toList (rs.drop 1) g k
   | .value _=>match rs with
     | .clo _ f caps::rs=>R4 E O o f (c.argTypes.toList++caps.map fun _=>0) (rs++caps.map fun x => .slot x.1 (.ptr x.1 x.2.1) x.2.2) g k
     | .slot _ (.val false [.fn ps] [.fn f ts] _ _) _::rs=>R4 E O o f (c.argTypes.toList++ps.map fun _=>0) (rs++(ps.zip ts).map fun x => .v ⟨false,[x.1],[x.2]⟩) g k
     | _=>none
   | _=>none
 | _,_=>fall (BC E (fun _ _=>none) o rs old g) k
def aq {β:Type} (E:Av) (O:BF) (o:Oper) (f:List Nat) (σ:AS) (k:Ez→Option β):Option β :=
 fg E O o (Ad σ.env o.op) (Jc σ.env o) σ.g fun out usesG=>if E5 o (Jc σ.env o) out.ups then k ⟨out.ups,out.g,
    f++Mg o.op (Ad σ.env o.op) out.ups++Fo o++(if usesG then [G] else []),
    out.ups.map (·.1)++Nv σ.env out.ups++(match out.g with
     | none=>[]
     | some _=>[G])⟩ else none
def AA.withBool (c:Bool):AA→AA
 | .val a p [.bool _] d pin => .val a p [.bool c] d pin
 | s=>s
def W7:List (Nat × AA)→Nat→Bool→List (Nat × AA)
 | [],_,_=>[]
 | (j,s)::r,d,c=>match Nat.beq j d with
   | true=>(j,s.withBool c)::r
   | false=>(j,s)::W7 r d c
def YC {β:Type} (ops:Array Oper) (o:Oper) (σ:AS) (k:AS→Option β):Option β :=
 match o.guard with
 | none=>k σ
 | some (j,_)=>match (ops[j]?).bind (·.dst) with
   | none=>none
   | some d=>match AG σ.env d with
     | .val false [.leaf] [.bool b] _ _=>br b (k ⟨W7 σ.env d true,σ.g⟩) (k ⟨W7 σ.env d false,σ.g⟩)
     | _=>k σ
def Ww {β:Type} (E:Av) (O:BF) (ops:Array Oper) (o:Oper) (σ:AS) (k:Ez→Option β):Option β :=
 match GU ops σ.env o with
 | none=>none
 | some (true,f)=>aq E O o f σ k
 | some (false,f)=>k ⟨AQ o .und,none,f,Fo o++(Fo o).map Dm⟩
def Kn {β:Type} (E:Av) (O:BF) (ops:Array Oper):List Oper→AS→List (List Nat × List Nat)→(AS→List (List Nat × List Nat)→Option β)→Option β
 | [],σ,fs,k=>k σ fs.reverse
 | o::os,σ,fs,k=>YC ops o σ fun σ=>Ww E O ops o σ fun st=>Kn E O ops os ⟨Az st.ups σ.env,st.g.getD σ.g⟩ ((st.foot,st.writes)::fs) k
def Zq:Code→Nat
 | .region id _ _=>16 * id
 | .seq a _=>Zq a
 | .cond _ x _=>Zq x
 | .block _ x=>Zq x
 | .loop x=>Zq x+1
 | _=>0
def rg {β:Type} (σ:AS) (k:AS→Option β):Option β:=k σ
def F4 {β:Type} (E:Av) (O:BF) (keep:List (Nat × List Nat)):Code→AS→(Ex→AS→Option β)→Option β
 | .skip,σ,k=>k .normal σ
 | .region id ops draw,σ,k=>rg (settle (Bq keep id) σ) fun σ=>Kn E O ops ops.toList σ [] fun σ' fs=>if !draw||EI (Region.before ops) 0 [] fs then k .normal σ' else none
 | .seq a b,σ,k=>F4 E O keep a σ fun ex σ'=>match ex with
   | .normal=>F4 E O keep b σ' k
   | .exit id=>k (.exit id) σ'
   | .ret=>k .ret σ'
 | .cond c x y,σ,k=>FI E 0 (AB σ.env c) fun t=>match t with
   | .bool b=>br b (F4 E O keep x σ k) (F4 E O keep y σ k)
   | _=>none
 | .block id body,σ,k=>F4 E O keep body σ fun ex σ'=>match ex with
   | .exit id'=>if id'=id then k .normal σ' else k (.exit id') σ'
   | .normal=>k .normal σ'
   | .ret=>k .ret σ'
 | .loop body,σ,k=>O.lp (Zq body) (settle (Bq keep (CI body)) σ) k
 | .exit id,σ,k=>k (.exit id) σ
 | .ret,σ,k=>k .ret σ
 | _,_,_=>none
def CD:Code→List Code
 | .loop b=>[b]
 | .seq a b=>CD a++CD b
 | .cond _ a b=>CD a++CD b
 | .block _ a=>CD a
 | _=>[]
def F9:Code→List Code
 | .loop b=>b::F9 b
 | .seq a b=>F9 a++F9 b
 | .cond _ a b=>F9 a++F9 b
 | .block _ a=>F9 a
 | _=>[]
def Ap (c:Code) (i:Nat):Code:=(F9 c).getD i .skip
def eu {β:Type} (E:Av) (O:BF) (f:Nat) (as:List Aa) (k:Dv→Option β):Option β :=
 match E.fn f with
 | some (.code c modes outs results keep)=>if Ds modes as then F4 E O keep c ⟨IA 0 as,0⟩ fun ex σ=>match Qh modes outs results keep (some (ex,σ)) with
   | none=>none
   | some r=>k r else none
 | _=>none
theorem SU {cs:List T} {j:Nat} (h:AR [.lst] cs j=true):cs[j]?=some (.lst (HP cs j) (H1 cs j)):=by
 simp only[AR,Bool.and_true] at h
 split at h
 ·rename_i t ht
  cases t <;>simp[Ml] at h
  simp[HP,H1,ht]
 ·simp at h
theorem KE:∀ {path:List (Nat × Nat)} {ps:List Pm} {cs:List T} {r:List Pm × List T},Jt ps cs path=some (true,r)→rowAt ps cs path=some r
 | [],ps,cs,r,h=>by simp only[Jt,zS,zP,true_and] at h;rw[← h];rfl
 | (e,c)::path,ps,cs,r,h=>by
   simp only[Jt] at h
   split at h
   ·rename_i el hc
    split at h
    ·simp at h
    ·rename_i g r' hr
     simp only[zS,zP,zB] at h
     obtain ⟨⟨rfl,h2⟩,rfl⟩:=h
     simp only[rowAt,hc,SU h2]
     exact KE hr
   ·simp at h
theorem DK {path:List (Nat × Nat)} {ps:List Pm} {cs:List T} {r:List Pm × List T} (h:GJ ps cs path=some (true,r)):rowAt ps cs path=some r:=by
 cases path with
 | nil=>simp only[GJ,zS,zP,true_and] at h;rw[← h];rfl
 | cons ec path =>
   obtain ⟨e,c⟩:=ec
   simp only[GJ] at h
   split at h
   ·rename_i el hc
    split at h
    ·rename_i n cs' hcs
     simp only[rowAt,hc,hcs]
     exact KE h
    ·simp at h
   ·simp at h
theorem Ch {ks:List CK} {ps:List Pm} {cs:List T} {pl:AX} {v:V} (h:Ey ks ps cs pl=some (true,v)):atPlace ps cs pl=some v:=by
 unfold Ey at h
 split at h
 ·split at h
  ·simp at h
  ·rename_i v' hv
   simp only[zS,zP,true_and] at h
   rw[hv,h]
 ·split at h
  ·simp at h
  rename_i g el rcs hr
  split at h
  ·simp at h
  rename_i hl
  have hl:ks.length=pl.n:=by simpa using hl
  split at h
  ·simp at h
  rename_i p hp
  simp only[zS,zP,zB] at h
  obtain ⟨⟨rfl,h2⟩,rfl⟩:=h
  have:=Jm h2
  rw[hl] at this
  simp only[atPlace,DK hr,hp,this]
theorem Fu {E:Av} {ty:Nat} {r:Ro} {o:Option V} (h:bw E ty r=some (true,o)):Ag E ty r=o:=by
 unfold bw at h
 split at h
 ·rename_i t j pl root
  split at h
  ·rename_i hr
   simp only[zS,zP,true_and] at h
   simp only[Ag,hr,← h]
  ·rename_i p cs d hr
   split at h
   ·rename_i hst
    simp only[zS,zP,true_and] at h
    simp only[Ag,hr,hst,← h,if_true]
   ·rename_i hst
    split at h
    ·simp at h
    ·split at h
     ·simp at h
     ·rename_i ks _ g v hat
      simp only[zS,zP] at h
      obtain ⟨rfl,rfl⟩:=h
      simp only[Ag,hr,hst,Bool.false_eq_true,if_false,Ch hat]
 ·simp only[zS,zP,true_and] at h
  exact h
theorem Fv {β:Type} {E:Av} {ty:Nat} {r:Ro} {k:V→Option β} {x:β} (h:Zo E ty r k=some x):∃ v,Ag E ty r=some v∧k v=some x:=by
 unfold Zo at h
 split at h
 ·rename_i g v hr
  obtain ⟨rfl,h2⟩:=BY h
  exact ⟨v,Fu hr,h2⟩
 ·simp at h
theorem BS {β:Type} {E:Av} {ty:Nat} {r:Ro} {k:T→Option β} {x:β} (h:FI E ty r k=some x):∃ t,BO E ty r=some t∧k t=some x:=by
 obtain ⟨v,h1,h2⟩:=Fv h
 split at h2
 ·rename_i t
  exact ⟨t,by simp only[BO,h1],h2⟩
 ·simp at h2
theorem It {x:Option T} {t:T} {g:Bool} (h:cL x=some (g,t)):x=some t:=by
 cases x <;>simp[cL] at h
 rw[h.2]
theorem UA {op:BinOp} {k:FloatKind} {x y:Nat} {t:T} (h:cF op k x y=some t):Ci op (.flt k x) (.flt k y)=some t:=by
 cases op <;>simp only[cF] at h <;>first | (simp only[Ci,if_true];exact h) | (simp at h)
theorem To {op:BinOp} {u v t:T} (h:bg op u v=some (true,t)):Ci op u v=some t:=by
 unfold bg at h
 split at h
 ·rename_i k x k' y
  split at h
  ·simp only[zS,zP,decide_eq_true_eq] at h
   simp only[Ci];rw[if_pos h.1,h.2]
  ·simp only[zS,zP,decide_eq_true_eq] at h
   simp only[Ci];rw[if_pos h.1,h.2]
  ·split at h
   ·rename_i e
    simp only[zS,zP,Bool.not_eq_true',decide_eq_false_iff_not] at h
    simp only[Ci];rw[if_pos e,if_neg h.1,h.2]
   ·simp at h
  ·split at h
   ·rename_i e
    simp only[zS,zP,Bool.not_eq_true',decide_eq_false_iff_not] at h
    simp only[Ci];rw[if_pos e,if_neg h.1,h.2]
   ·simp at h
  ·exact It h
 ·split at h
  ·rename_i e;subst e
   exact UA (It h)
  ·simp at h
 ·rename_i a b
  split at h
  ·simp only[zS,zP,decide_eq_true_eq] at h
   simp only[Ci];rw[if_pos h.1,h.2]
  ·exact It h
 ·exact It h
theorem TE {β:Type} {kd:Kd} {u:T} {k:T→Option β} {x:β} (h:WX kd u k=some x):∃ t,MA kd u=some t∧k t=some x:=by
 unfold WX at h
 split at h
 ·obtain ⟨n,h1,h2⟩:=DR h
  exact ⟨_,by simp only[MA,h1],h2⟩
 ·obtain ⟨n,h1,h2⟩:=DR h
  exact ⟨_,by simp only[MA,h1],h2⟩
 ·split at h
  ·simp at h
  ·rename_i t ht
   exact ⟨t,ht,h⟩
theorem Oh {m:Bool} {u v t:T} (h:RF m u v=some t):J3 m u v=some t:=by
 unfold RF at h
 split at h
 ·rename_i k x k' y
  split at h
  ·rename_i e;subst e
   simp only[zS] at h
   subst h
   simp only[J3,ne_eq,not_true_eq_false,if_false,iz]
   split <;>(first | rfl | simp_all)
  ·simp at h
 ·exact h
theorem F2 {m:Bool}:∀ {us:List T} {t r:T},H9 m t us=some r→Et m t us=some r
 | [],t,r,h=>h
 | u::us,t,r,h=>by
   simp only[H9] at h
   split at h
   ·simp at h
   ·rename_i t' ht
    simp only[Et,Oh ht]
    exact F2 h
theorem Dz (o:Oper) (t:T):Bo o (some t)=some (Ge o t):=rfl
section
variable {β:Type} {E:Av} {O:BF} {cf:Nat→List Aa→Option Dv} {o:Oper} {k:CB→Bool→Option β} {x:β}
theorem DF {y:Option CB} {u:Bool} (h:KH y u k=some x):∃ out,y=some out∧k out u=some x:=by
 unfold KH at h
 split at h
 ·simp at h
 ·exact ⟨_,rfl,h⟩
theorem Sl {t:Nat} {r:Ro} (h:WN E o t r k=some x):∃ out,Gi E o t r=some out∧k out false=some x:=by
 unfold WN at h
 split at h
 ·simp at h
 rename_i d hd
 split at h
 ·rename_i j pl root hp
  split at h
  ·simp at h
  rename_i p cs dd hr
  split at h
  ·simp at h
  rename_i g v hat
  obtain ⟨rfl,h⟩:=BY h
  have:=Ch hat
  unfold Gi
  simp only[hd,hp,hr,this]
  split at h
  ·rename_i hn
   exact ⟨_,by rw[if_pos hn],h⟩
  ·rename_i hn
   exact ⟨_,by rw[if_neg hn],h⟩
 ·exact DF h
theorem Qe {s:Nat} {r:Ro} {f:Nat} (h:TV E o s r f k=some x):∃ out,Hg E o s r f=some out∧k out false=some x:=by
 unfold TV at h
 split at h
 ·rename_i t j pl root
  split at h
  ·exact DF h
  ·split at h
   ·simp at h
   rename_i d hd
   split at h
   ·rename_i fs hk
    split at h
    ·simp at h
    rename_i off ty hf
    split at h
    ·simp at h
    rename_i d' hd'
    obtain ⟨v,hv,h⟩:=Fv h
    split at h
    ·simp at h
    rename_i hag
    split at h
    ·simp at h
    rename_i p hp
    split at h
    ·simp at h
    rename_i c hc
    unfold Hg
    simp only[hd,hk,hf,hd',hv,hag,hp,hc,Bool.not_true,Bool.false_eq_true,if_false]
    split at h
    ·rename_i hn
     exact ⟨_,by rw[if_pos hn],h⟩
    ·rename_i hn
     exact ⟨_,by rw[if_neg hn],h⟩
   ·simp at h
 ·exact DF h
theorem Lk {t n:Nat} {ks:List CK}:Pi E t=some ks→Nat.beq ks.length n=true→ks.length=n:=fun _ h=>by simpa using h
theorem LF {g t iTy:Nat} {r ri:Ro} (h:KB E g o t r ri iTy k=some x):∃ out,E4 E g o t r ri iTy=some out∧k out true=some x:=by
 unfold KB at h
 obtain ⟨ti,h1,h⟩:=BS h
 split at h
 ·rename_i ik i
  obtain ⟨v,h2,h⟩:=Fv h
  split at h
  ·rename_i fl el n cs
   unfold E4
   simp only[h1,h2]
   split at h
   ·simp at h
   rename_i hst
   simp only[zB] at hst
   split at h
   ·split at h
    ·obtain ⟨hb,h⟩:=BY h
     have hb:=of_decide_eq_true hb
     exact ⟨_,by rw[if_pos ⟨hb.1,hb.2,hst.1,hst.2⟩],h⟩
    ·rename_i j s root hns _ _
     obtain ⟨hb,h⟩:=BY h
     have hb:=of_decide_eq_true hb
     refine ⟨_,?_,h⟩
     rw[if_pos ⟨hb.1,hb.2,hst.1,hst.2⟩]
     cases s <;>first | rfl | exact (hns _ _ rfl).elim
    ·simp at h
   ·rename_i hfl
    split at h
    ·simp at h
    rename_i ks hks
    split at h
    ·simp at h
    rename_i hl
    obtain ⟨hb,h⟩:=BY h
    simp only[zB] at hb
    have hb1:=of_decide_eq_true hb.1
    have hc:=Jm hb.2
    rw[Lk hks hl] at hc
    refine ⟨_,?_,h⟩
    rw[if_pos ⟨hb1.1,hb1.2,hst.1,hst.2⟩]
    cases fl with
    | own=>exact absurd rfl (hfl)
    | shr=>simp only[hc]
    | lent g'=>simp only[hc]
  ·simp at h
 ·simp at h
theorem Q9 {t iTy:Nat} {r ri:Ro} (h:T3 E o t r ri iTy k=some x):∃ out,K8 E o t r ri iTy=some out∧k out false=some x:=by
 unfold T3 at h
 obtain ⟨ti,h1,h⟩:=BS h
 split at h
 ·rename_i ik i
  obtain ⟨ts,h2,h⟩:=BS h
  split at h
  ·rename_i s
   split at h
   ·simp at h
   rename_i hst
   obtain ⟨hb,h⟩:=BY h
   have hb:=of_decide_eq_true hb
   have hlt:i.toNat<s.length:=by omega
   unfold K8
   simp only[h1,h2]
   refine ⟨_,?_,h⟩
   rw[if_pos ⟨hb.1,hst⟩]
   simp only[WS,List.getElem?_eq_getElem hlt]
   rfl
  ·simp at h
 ·simp at h
theorem Lm {t lTy:Nat} {l:Ro} (h:Jl E o t l lTy k=some x):∃ out,E2 E o t l lTy=some out∧k out false=some x:=by
 unfold Jl at h
 split at h
 ·rename_i d hd
  split at h
  ·rename_i e hk
   split at h
   ·simp at h
   rename_i de hde
   obtain ⟨tl,h1,h⟩:=BS h
   split at h
   ·rename_i n
    split at h
    ·simp at h
    rename_i hby
    obtain ⟨hb,h⟩:=BY h
    have hb:=of_decide_eq_true hb
    unfold E2
    simp only[hd,hk,hde,h1]
    exact ⟨_,by rw[if_pos ⟨hb.1,hb.2,by simpa using hby⟩],h⟩
   ·simp at h
  ·simp at h
 ·simp at h
theorem Ff {β:Type} {x:β} {ty:Nat} {d:Int} {r:Option Ro} {k:Int→Option β} (h:LI E ty d r k=some x):∃ n,IY E ty d r=some n∧k n=some x:=by
 unfold LI at h
 split at h
 ·exact ⟨d,rfl,h⟩
 ·obtain ⟨t,h1,h⟩:=BS h
  split at h
  ·exact ⟨_,by simp only[IY,h1],h⟩
  ·simp at h
theorem Fd {t iTy g:Nat} {r:Ro} {lo hi:Option Ro} (h:LK E o t r lo hi iTy g k=some x):∃ out,DV E o t r lo hi iTy g=some out∧k out true=some x:=by
 unfold LK at h
 obtain ⟨v,h1,h⟩:=Fv h
 have key:∀ out,Ep E o t r lo hi iTy g=some out→DV E o t r lo hi iTy g=some out:=fun out h=>by unfold DV;rw[h]
 split at h
 ·rename_i s
  obtain ⟨l,h2,h⟩:=Ff h
  obtain ⟨hh,h3,h⟩:=Ff h
  split at h
  ·simp at h
  rename_i hst
  obtain ⟨hb,h⟩:=BY h
  have hb:=of_decide_eq_true hb
  refine ⟨_,key _ ?_,h⟩
  unfold Ep
  simp only[h1,h2,h3]
  rw[if_pos ⟨hb.1,hb.2.1,hb.2.2,hst⟩]
 ·rename_i fl el n cs
  obtain ⟨l,h2,h⟩:=Ff h
  obtain ⟨hh,h3,h⟩:=Ff h
  split at h
  ·simp at h
  rename_i hst
  simp only[zB] at hst
  obtain ⟨hb,h⟩:=BY h
  have hb:=of_decide_eq_true hb
  cases fl with
  | shr =>
    refine ⟨_,key _ ?_,h⟩
    unfold Ep
    simp only[h1,h2,h3]
    rw[if_pos ⟨hb.1,hb.2.1,hb.2.2,hst.1,hst.2⟩]
  | lent g' =>
    refine ⟨_,key _ ?_,h⟩
    unfold Ep
    simp only[h1,h2,h3]
    rw[if_pos ⟨hb.1,hb.2.1,hb.2.2,hst.1,hst.2⟩]
  | own =>
    simp only at h
    split at h
    ·rename_i hno
     refine ⟨_,key _ ?_,h⟩
     unfold Ep
     simp only[h1,h2,h3]
     rw[if_pos ⟨hb.1,hb.2.1,hb.2.2,hst.1,hst.2⟩]
     simp only[hno]
    ·rename_i hno
     have hok:BE el=true:=by
      simp only[Bool.or_eq_false_iff,Bool.not_eq_false'] at hno
      exact hno.2
     have e1:Ep E o t r lo hi iTy g=none:=by
      unfold Ep
      simp only[h1,h2,h3]
      rw[if_pos ⟨hb.1,hb.2.1,hb.2.2,hst.1,hst.2⟩]
      simp only[hno]
     cases r with
     | slot tt s root =>
       cases s with
       | view kk pl =>
         simp only at h
         cases hpath:pl.path with
         | cons a b=>simp[hpath] at h
         | nil =>
           simp only[hpath] at h
           cases hroot:root.root with
           | none=>simp[hroot] at h
           | some pcd =>
             obtain ⟨p,rcs,d⟩:=pcd
             simp only[hroot] at h
             refine ⟨_,?_,h⟩
             unfold DV
             rw[e1]
             simp only[Iv,h1,h2,h3]
             rw[if_pos ⟨hb.1,hb.2.1,hb.2.2,hst.1,hok⟩]
             simp only[hpath,hroot]
       | _=>simp at h
     | _=>simp at h
 ·simp at h
theorem TQ {g t:Nat} {r:Ro} (h:cI E g o t r k=some x):∃ out,SQ E g o t r=some out∧k out true=some x:=by
 unfold cI at h
 obtain ⟨v,h1,h⟩:=Fv h
 unfold SQ
 split at h
 ·simp only[h1]
  split at h
  ·rename_i hs
   exact ⟨_,by rw[if_pos hs,Dz],h⟩
  ·simp at h
 ·simp only[h1]
  split at h
  ·rename_i hs
   simp only[zB] at hs
   exact ⟨_,by rw[if_pos ⟨hs.1,hs.2⟩,Dz],h⟩
  ·simp at h
 ·simp at h
theorem Jd {f:List T→List T}:∀ {path:List (Nat × Nat)} {ps:List Pm} {cs:List T} {r:List Pm × List T},Jt ps cs path=some (true,r)→MX f ps cs path=A2 ps cs path f
 | [],_,_,_,_=>rfl
 | (e,c)::path,ps,cs,r,h=>by
   simp only[Jt] at h
   split at h
   ·rename_i el hc
    split at h
    ·simp at h
    ·rename_i g r' hr
     simp only[zS,zP,zB] at h
     obtain ⟨⟨rfl,h2⟩,rfl⟩:=h
     simp only[MX,A2,hc,SU h2,Jd hr]
   ·simp at h
theorem Dc {f:List T→List T} {path:List (Nat × Nat)} {ps:List Pm} {cs:List T} {r:List Pm × List T} (h:GJ ps cs path=some (true,r)):Hd f ps cs path=A2 ps cs path f:=by
 cases path with
 | nil=>rfl
 | cons ec path =>
   obtain ⟨e,c⟩:=ec
   simp only[GJ] at h
   split at h
   ·rename_i el hc
    split at h
    ·rename_i n cs' hcs
     simp only[Hd,A2,hc,hcs,Jd h]
    ·simp at h
   ·simp at h
theorem K6 {b:Option Bool} {y:Option β} (h:ci b y=some x):(b=none∨b=some true)∧y=some x:=by
 cases b with
 | none=>exact ⟨.inl rfl,h⟩
 | some b =>
   obtain ⟨rfl,h⟩:=BY h
   exact ⟨.inr rfl,h⟩
theorem GM {root s:AA} {pl:AX} {hs:List T} {n:Nat} (h:Ih root pl hs n=some (true,s)):∃ p cs d el rcs,root.root=some (p,cs,d)∧rowAt p cs pl.path=some (el,rcs) ∧
  s=root.withRoot p (A2 p cs pl.path fun rcs=>AF rcs (ix el.length pl.e pl.c) hs) ((F3 pl.path,pl.c,n)::d):=by
 unfold Ih at h
 split at h
 ·simp at h
 rename_i p cs d hroot
 split at h
 ·simp at h
 rename_i g el rcs hrow
 simp only[zS,zP] at h
 obtain ⟨rfl,rfl⟩:=h
 exact ⟨p,cs,d,el,rcs,hroot,DK hrow,by rw[Dc hrow]⟩
theorem HV {g ty:Nat} {r:Ro} {b:Option Bool} {v:V} {us:List (Nat × AA)} (h:NN E g ty r=some (b,v,us)) (hb:b=none∨b=some true):Hx E g ty r=some (v,us):=by
 unfold NN at h
 split at h
 ·rename_i t j pl root
  split at h
  ·split at h
   ·simp at h
   ·rename_i v' us' hr
    simp only[zS,zP] at h
    obtain ⟨-,rfl,rfl⟩:=h
    exact hr
  ·rename_i hpath
   split at h
   ·simp at h
   rename_i hn
   split at h
   ·rename_i gg v' hr
    split at h
    ·simp at h
    rename_i hf
    split at h
    ·simp at h
    rename_i hno
    split at h
    ·simp at h
    rename_i hs hh
    split at h
    ·simp at h
    rename_i g2 s hrow
    simp only[zS,zP] at h
    obtain ⟨rfl,rfl,rfl⟩:=h
    simp only[reduceCtorEq,zS,zB,false_or] at hb
    obtain ⟨rfl,rfl⟩:=hb
    obtain ⟨p,cs,d,el,rcs,h1,h2,rfl⟩:=GM hrow
    unfold Hx
    rw[Fu hr]
    simp only[hf,hno,Bool.not_true,Bool.false_eq_true,if_false]
    cases hpl:pl.path with
    | nil=>exact absurd hpl hpath
    | cons a b =>
      rw[hpl] at h2
      simp only[hn,Bool.false_eq_true,if_false,h1,h2,hh,hpl]
   ·simp at h
 ·split at h
  ·simp at h
  ·rename_i v' us' hr
   simp only[zS,zP] at h
   obtain ⟨-,rfl,rfl⟩:=h
   exact hr
theorem Y0 {a b:Option Bool} (h:ZN a b=none∨ZN a b=some true):(a=none∨a=some true)∧(b=none∨b=some true):=by
 cases a <;>cases b <;>simp_all [ZN]
theorem G0 {g:Nat} {tys:Nat→Option Nat}:∀ {l:List (Nat × Ro)} {b:Option Bool} {vs:List (Nat × V)} {us:List (Nat × AA)},GE E g tys l=some (b,vs,us)→(b=none∨b=some true)→Dw E g tys l=some (vs,us)
 | [],b,vs,us,h,_=>by
   simp only[GE,zS,zP] at h
   obtain ⟨-,rfl,rfl⟩:=h;rfl
 | (i,r)::l,b,vs,us,h,hb=>by
   simp only[GE] at h
   split at h
   ·simp at h
   rename_i ty hty
   split at h
   ·simp at h
   rename_i gg v u h1
   split at h
   ·simp at h
   rename_i g2 vs' us' h2
   simp only[zS,zP] at h
   obtain ⟨rfl,rfl,rfl⟩:=h
   obtain ⟨q1,q2⟩:=Y0 hb
   simp only[Dw,hty,HV h1 q1,G0 h2 q2]
theorem LA {g t len:Nat} {parts:List (Nat × Ro)} (h:IB E g o t len parts k=some x):∃ out,ED E g o t len parts=some out∧k out true=some x:=by
 unfold IB at h
 split at h
 ·rename_i d hd
  split at h
  ·rename_i e hk
   split at h
   ·simp at h
   rename_i de hde
   split at h
   ·rename_i hb
    split at h
    ·simp at h
    rename_i gg vs us h1
    split at h
    ·simp at h
    rename_i cs hf
    split at h
    ·rename_i hnd
     obtain ⟨hg,h⟩:=K6 h
     unfold ED
     simp only[hd,hk,hde]
     exact ⟨_,by rw[if_pos hb,G0 h1 hg];simp only[hf];rw[if_pos hnd],h⟩
    ·simp at h
   ·simp at h
  ·simp at h
 ·simp at h
theorem MH {t1:Nat} {s:Ro} {b:Option Bool} {r:Nat × List T × List Pm × List (Nat × AA)} (h:LZ E t1 s=some (b,r)) (hb:b=none∨b=some true):GL E t1 s=some r:=by
 unfold LZ at h
 split at h
 ·rename_i t j pl root
  split at h
  ·split at h
   ·simp at h
   ·rename_i r' hr
    simp only[zS,zP] at h
    rw[hr,h.2]
  ·rename_i hpath
   split at h
   ·simp at h
   rename_i hpin
   split at h
   ·rename_i gg el n cs hr
    split at h
    ·simp at h
    rename_i g2 s hrow
    simp only[zS,zP] at h
    obtain ⟨rfl,rfl⟩:=h
    simp only[reduceCtorEq,zS,zB,false_or] at hb
    obtain ⟨rfl,rfl⟩:=hb
    obtain ⟨p,cs',d,el2,rcs,h1,h2,rfl⟩:=GM hrow
    unfold GL
    rw[Fu hr]
    simp only[hpin,Bool.false_eq_true,if_false,h1]
    cases hpl:pl.path with
    | nil=>exact absurd hpl hpath
    | cons a b =>
      rw[hpl] at h2
      simp only[h2,hpl]
   ·simp at h
 ·split at h
  ·simp at h
  ·rename_i r' hr
   simp only[zS,zP] at h
   rw[hr,h.2]
theorem MO {g t2:Nat} {y:Ro} {r:Nat × List T × List Pm × List (Nat × AA)} (h:LG E g t2 y=some (true,r)):GI E g t2 y=some r:=by
 unfold LG at h
 split at h
 ·split at h
  ·split at h
   ·simp at h
   ·rename_i r' hr
    simp only[zS,zP,true_and] at h
    rw[hr,h]
  ·split at h
   ·rename_i gg fl el m cs hr
    split at h
    ·rename_i hc
     split at h
     ·rename_i hn
      simp only[zS,zP] at h
      obtain ⟨rfl,rfl⟩:=h
      unfold GI
      rw[Fu hr]
      simp only
      rw[if_pos hc,if_pos hn]
     ·simp at h
    ·simp at h
   ·simp at h
 ·split at h
  ·simp at h
  ·rename_i r' hr
   simp only[zS,zP,true_and] at h
   rw[hr,h]
theorem Ou {g t1 t2:Nat} {s y:Ro} (h:Qp E g o t1 t2 s y k=some x):∃ out,HG E g o t1 t2 s y=some out∧k out true=some x:=by
 unfold Qp at h
 split at h
 ·rename_i d hd
  split at h
  ·rename_i e hk
   split at h
   ·simp at h
   rename_i de hde
   split at h
   ·simp at h
   rename_i g1 n cs el us h1
   split at h
   ·simp at h
   rename_i gg m cs' el' us' h2
   split at h
   ·simp at h
   rename_i hst
   simp only[zB] at hst
   obtain ⟨hg1,h⟩:=K6 h
   have h1:=MH h1 hg1
   obtain ⟨hb,h9⟩:=BY h
   simp only[zB] at hb
   obtain ⟨rfl,hb⟩:=hb
   have h2:=MO h2
   unfold HG
   simp only[hd,hk,hde,h1,h2]
   exact ⟨_,by rw[if_pos (by simp only[zB];exact ⟨⟨⟨⟨hst.1.1.1,hst.1.1.2⟩,hb⟩,hst.1.2⟩,hst.2⟩)],h9⟩
  ·simp at h
 ·simp at h
theorem P7 {g t:Nat} {r y:Ro} (h:TP E g t r y k=some x):∃ out row,Ga E g t r y=some (out,row)∧(if row then k ⟨out.ups,some (g+1)⟩ true else k out true)=some x:=by
 unfold TP at h
 split at h
 ·simp at h
 rename_i j pl root hp
 split at h
 ·rename_i hpath
  split at h
  ·simp at h
  rename_i d hd
  split at h
  ·simp at h
  rename_i p cs dd hr
  split at h
  ·simp at h
  rename_i gg v us ht
  split at h
  ·simp at h
  rename_i q hq
  split at h
  ·simp at h
  rename_i c hc
  split at h
  ·simp at h
  rename_i hst
  simp only[zB,beq_iff_eq] at hst
  obtain ⟨⟨s1,s2⟩,s3⟩:=hst
  obtain ⟨hb,h'⟩:=K6 h
  have ht' :=HV ht hb
  have s3:root.pinned=false:=by simpa using s3
  unfold Ga
  simp only[hd,hp,hr,ht',hpath,rowAt,hq,hc]
  rw[if_pos ⟨s1,s2⟩]
  simp only[s3,Bool.false_eq_true,if_false]
  exact ⟨_,false,rfl,by simpa using h'⟩
 ·rename_i path hpath
  split at h
  ·simp at h
  rename_i d hd
  split at h
  ·simp at h
  rename_i p cs dd hr
  split at h
  ·simp at h
  rename_i g1 v us ht
  split at h
  ·simp at h
  rename_i gg el rcs hrow
  split at h
  ·simp at h
  rename_i q hq
  split at h
  ·simp at h
  rename_i hst
  simp only[zB,beq_iff_eq] at hst
  obtain ⟨⟨⟨s1,s2⟩,s3⟩,s4⟩:=hst
  obtain ⟨hb1,h1⟩:=K6 h
  have ht' :=HV ht hb1
  obtain ⟨hb,h'⟩:=BY h1
  clear h h1
  simp only[zB,Nat.ble_eq] at hb
  obtain ⟨rfl,hb⟩:=hb
  have hrow' :=DK hrow
  unfold Ga
  simp only[hd,hp,hr,ht',hrow',hq,Iu hb]
  rw[if_pos ⟨s1,s2⟩]
  have hset:=Dc (f:=fun rcs=>AF rcs (ix el.length pl.e pl.c) v.cs) hrow
  cases hpl:pl.path with
  | nil=>exact absurd hpl hpath
  | cons a b =>
    refine ⟨_,true,by rw[if_pos s3],?_⟩
    simp only[if_true]
    rw[hset,hpl] at h'
    exact h'
theorem OS {r:Ro} {old:AA} (h:Qz E o r old k=some x):∃ out,Ew E o r old=some out∧k out false=some x:=by
 unfold Qz at h
 split at h
 ·rename_i t j pl root
  split at h
  ·exact DF h
  ·rename_i hpath
   split at h
   ·simp at h
   rename_i hold
   split at h
   ·simp at h
   rename_i dst hd
   split at h
   ·simp at h
   rename_i htd
   split at h
   ·simp at h
   rename_i hjd
   split at h
   ·rename_i a p cs d pin
    split at h
    ·simp at h
    rename_i hps
    split at h
    ·simp at h
    rename_i hn
    split at h
    ·simp at h
    rename_i ks hks
    split at h
    ·simp at h
    rename_i g v hv
    split at h
    ·simp at h
    rename_i gg el rcs hrow
    split at h
    ·simp at h
    rename_i hs hh
    obtain ⟨hb,h'⟩:=BY h
    clear h
    simp only[zB] at hb
    obtain ⟨rfl,rfl⟩:=hb
    have hset:=Dc (f:=fun rcs=>AF rcs (ix el.length pl.e pl.c) hs) hrow
    rw[hset] at h'
    refine ⟨_,?_,h'⟩
    unfold Ew
    rw[if_neg hold]
    simp only[hd]
    rw[if_neg htd,if_neg hjd,if_neg hps]
    cases hpl:pl.path with
    | nil=>exact absurd hpl hpath
    | cons a b =>
      rw[if_neg hn,Ch hv]
      have hrow' :=DK hrow
      rw[hpl] at hrow'
      simp only[hrow',hh]
   ·rename_i p cs d pin
    split at h
    ·simp at h
    rename_i hps
    split at h
    ·simp at h
    rename_i hn
    split at h
    ·simp at h
    rename_i ks hks
    split at h
    ·simp at h
    rename_i g v hv
    split at h
    ·simp at h
    rename_i gg el rcs hrow
    split at h
    ·simp at h
    rename_i hs hh
    obtain ⟨hb,h'⟩:=BY h
    clear h
    simp only[zB] at hb
    obtain ⟨rfl,rfl⟩:=hb
    have hset:=Dc (f:=fun rcs=>AF rcs (ix el.length pl.e pl.c) hs) hrow
    rw[hset] at h'
    refine ⟨_,?_,h'⟩
    unfold Ew
    rw[if_neg hold]
    simp only[hd]
    rw[if_neg htd,if_neg hjd,if_neg hps]
    cases hpl:pl.path with
    | nil=>exact absurd hpl hpath
    | cons a b =>
      rw[if_neg hn,Ch hv]
      have hrow' :=DK hrow
      rw[hpl] at hrow'
      simp only[hrow',hh]
   ·simp at h
 ·exact DF h
theorem NL {g src dst:Nat} {r:Ro} (h:Mf E g o src dst r k=some x):∃ out,HN E g o src dst r=some out∧k out true=some x:=by
 unfold Mf at h
 split at h
 ·simp at h
 rename_i d hd
 obtain ⟨v,h1,h⟩:=Fv h
 unfold HN
 split at h
 ·rename_i u
  simp only[hd,h1]
  split at h
  ·rename_i hl
   obtain ⟨t,h2,h⟩:=TE h
   exact ⟨_,by rw[if_pos hl,h2,Dz],h⟩
  ·simp at h
 ·rename_i fl n cs
  simp only[hd,h1]
  split at h
  ·rename_i hl
   split at h
   ·rename_i hk
    obtain ⟨bs,h2,h⟩:=DR h
    refine ⟨_,?_,h⟩
    rw[if_pos hl]
    simp only[hk,h2,Dz]
   ·simp at h
  ·simp at h
 ·simp at h
end
def BF.CfOk (O:BF) (cf:Nat→List Aa→Option Dv):Prop :=
 ∀ (β:Type) (f:Nat) (as:List Aa) (k:Dv→Option β) (x:β),O.cf f as k=some x→∃ r,cf f as=some r∧k r=some x
theorem HT {E:Av}:∀ {tys:List Nat} {rs:List Ro} {os:List (Option V)},Sg E tys rs=some (true,os)→HU E tys rs=KV os∧(∀ ms,ms.length=tys.length→CF E ms tys rs=KJ ms os)
 | [],rs,os,h=>by
   simp only[Sg,zS,zP,true_and] at h
   subst h
   refine ⟨rfl,fun ms hm => ?_⟩
   have:ms=[]:=length_eq_zero_iff.1 hm
   subst this;cases rs <;>rfl
 | ty::tys,[],os,h=>by
   simp only[Sg,zS,zP,true_and] at h
   subst h
   refine ⟨rfl,fun ms hm => ?_⟩
   cases ms with
   | nil=>rfl
   | cons m ms=>cases m <;>rfl
 | ty::tys,r::rs,os,h=>by
   simp only[Sg] at h
   split at h
   ·simp at h
   rename_i g o ho
   split at h
   ·simp at h
   rename_i g' os' hos
   simp only[zS,zP,zB] at h
   obtain ⟨⟨rfl,rfl⟩,rfl⟩:=h
   obtain ⟨h1,h2⟩:=HT hos
   have hr:=Fu ho
   refine ⟨by simp only[HU,KV,hr,h1];cases o <;>rfl,fun ms hm => ?_⟩
   cases ms with
   | nil=>simp at hm
   | cons m ms =>
     have h3:=h2 ms (by simpa using hm)
     cases m with
     | val=>simp only[CF,KJ,hr,h3];cases o <;>rfl
     | io=>simp only[CF,KJ,h3]
     | iop=>simp only[CF,KJ,h3]
theorem Qd {E:Av} {gm:Option Nat} {m:Cn} {ty:Nat} {r:Ro} {o:Option V} {a:Aa} {ks:List (Nat × AX)} (hr:Ag E ty r=o) (h:UB E gm m ty r o=some (true,a,ks)):Dy E gm m ty r=some (a,ks):=by
 have key:∀ m,(match Dy E gm m ty r with | none=>none | some (a,ks)=>some (true,a,ks))=some (true,a,ks)→Dy E gm m ty r=some (a,ks):=by
  intro m h
  split at h
  ·simp at h
  ·rename_i a' ks' hm
   simp only[zS,zP,true_and] at h
   obtain ⟨rfl,rfl⟩:=h
   exact hm
 unfold UB at h
 split at h
 ·split at h
  ·rename_i v
   simp only[zS,zP,true_and] at h
   obtain ⟨rfl,rfl⟩:=h
   simp only[Dy,hr]
  ·split at h
   ·rename_i t j pl root
    split at h
    ·exact key .val h
    ·split at h
     ·simp at h
     split at h
     ·split at h
      ·simp at h
      split at h
      ·simp at h
      rename_i p cs dd hroot
      split at h
      ·simp at h
      rename_i hst
      split at h
      ·simp at h
      rename_i g v hat
      split at h
      ·simp at h
      rename_i hn
      simp only[zS,zP] at h
      obtain ⟨rfl,rfl,rfl⟩:=h
      have hp:Bm (.slot t (.ptr j pl) root)=some (j,pl,root):=by
       simp only[Bm,hroot,hst,Bool.false_eq_true,if_false]
      simp only[Dy,hr,hp,hroot,Ch hat,hn,Bool.false_eq_true,if_false]
     ·simp at h
   ·exact key .val h
 ·split at h
  ·simp at h
  rename_i k pl root hio
  split at h
  ·exact key .io h
  ·rename_i hpath
   split at h
   ·simp at h
   rename_i p cs d hroot
   split at h
   ·simp at h
   rename_i hst
   split at h
   ·simp at h
   split at h
   ·simp at h
   rename_i g v hat
   split at h
   ·rename_i hnl
    simp only[zS,zP] at h
    obtain ⟨rfl,rfl,rfl⟩:=h
    simp only[Bool.or_eq_false_iff] at hst
    have hpe:pl.path.isEmpty=false:=by
     cases hpp:pl.path with
     | nil=>exact absurd hpp hpath
     | cons=>rfl
    simp only[Dy,hio,hroot,hst.1,hst.2,hpe,Bool.false_and,Bool.or_false,Bool.false_eq_true,if_false,Ch hat,hnl,if_true]
   ·simp at h
 ·exact key _ h
theorem Mt {a:Aa} {pl:AX} {root s:AA} {v:V} (h:Mp a pl root v=some (true,s)):Dj a pl root v=some s:=by
 unfold Mp at h
 split at h
 ·split at h
  ·simp at h
  ·rename_i s' hs
   simp only[zS,zP,true_and] at h
   rw[hs,h]
 ·rename_i hpath
  split at h
  ·rename_i hm
   split at h
   ·simp at h
   rename_i p cs d hroot
   split at h
   ·rename_i hc
    split at h
    ·simp at h
    rename_i hdd
    split at h
    ·simp at h
    rename_i hs hh
    obtain ⟨p',cs',d',el,rcs,h1,h2,rfl⟩:=GM h
    rw[hroot] at h1
    obtain ⟨rfl,rfl,rfl⟩:p=p'∧cs=cs'∧d=d' :=by simpa using h1
    simp only[Dj,hroot,hm,hc,Bool.false_eq_true,if_false,hdd,if_true]
    cases hpl:pl.path with
    | nil=>exact absurd hpl hpath
    | cons a b =>
      rw[hpl] at h2
      simp only[h2,hh]
   rename_i hc
   split at h
   ·simp at h
   rename_i g el rcs hrow
   simp only[zS,zP] at h
   obtain ⟨rfl,rfl⟩:=h
   simp only[Dj,hroot,hm,hc,if_true]
   have hr:=DK hrow
   split
   ·rename_i hpp;rw[hr] at hpp;simp at hpp
   ·rename_i hpp
    rw[hr] at hpp
    simp only[zS,zP] at hpp
    obtain ⟨rfl,rfl⟩:=hpp
    rw[Dc hrow]
  ·simp at h
theorem FM {roots:Nat→AA}:∀ {as:List Aa} {ks:List (Nat × AX)} {vs:List V} {us:List (Nat × AA)},Dx roots as ks vs=some (true,us)→De roots as ks vs=some us
 | [],[],[],us,h=>by simp only[Dx,zS,zP,true_and] at h;rw[← h];rfl
 | [],_::_,_,us,h=>by simp[Dx] at h
 | [],[],_::_,us,h=>by simp[Dx] at h
 | a::as,ks,vs,us,h=>by
   simp only[Dx] at h
   simp only[De]
   split at h
   ·rename_i hm
    simp only[hm]
    exact FM h
   ·rename_i hm
    split at h
    ·rename_i k pl ks v vs
     split at h
     ·simp at h
     rename_i g s hs
     split at h
     ·simp at h
     rename_i g' us' hus
     simp only[zS,zP,zB] at h
     obtain ⟨⟨rfl,rfl⟩,rfl⟩:=h
     split
     ·rename_i e;exact absurd e hm
     ·simp only[Mt hs,FM hus]
    ·simp at h
theorem Eo {E:Av} {gm:Option Nat}:∀ {ms:List Cn} {tys:List Nat} {rs:List Ro} {os:List (Option V)} {as:List Aa} {ks:List (Nat × AX)},Sg E tys rs=some (true,os)→EF E gm ms tys rs os=some (true,as,ks)→CT E gm ms tys rs=some (as,ks)
 | [],[],[],os,as,ks,_,h=>by
   simp only[EF,zS,zP,true_and] at h
   obtain ⟨rfl,rfl⟩:=h;rfl
 | [],[],_::_,os,as,ks,_,h=>by simp[EF] at h
 | [],_::_,_,os,as,ks,_,h=>by simp[EF] at h
 | _::_,[],_,os,as,ks,_,h=>by simp[EF] at h
 | _::_,_::_,[],os,as,ks,_,h=>by simp[EF] at h
 | m::ms,ty::tys,r::rs,os,as,ks,hr,h=>by
   simp only[Sg] at hr
   split at hr
   ·simp at hr
   rename_i g o ho
   split at hr
   ·simp at hr
   rename_i g' os' hos
   simp only[zS,zP,zB] at hr
   obtain ⟨⟨rfl,rfl⟩,rfl⟩:=hr
   simp only[EF] at h
   split at h
   ·simp at h
   rename_i g1 a ks1 h1
   split at h
   ·simp at h
   rename_i g2 as2 ks2 h2
   simp only[zS,zP,zB] at h
   obtain ⟨⟨rfl,rfl⟩,rfl,rfl⟩:=h
   simp only[CT,Qd (Fu ho) h1,Eo hos h2]
theorem KC {E:Av} {gm:Option Nat}:∀ {ms:List Cn} {tys:List Nat} {rs:List Ro} {x},CT E gm ms tys rs=some x→ms.length=tys.length
 | [],[],rs,x,_=>rfl
 | [],_::_,rs,x,h=>by simp[CT] at h
 | _::_,[],rs,x,h=>by simp[CT] at h
 | _::_,_::_,[],x,h=>by simp[CT] at h
 | m::ms,ty::tys,r::rs,x,h=>by
   simp only[CT] at h
   split at h
   ·simp at h
   ·split at h
    ·simp at h
    ·rename_i h2
     simp[KC h2]
section
variable {β:Type} {E:Av} {O:BF} {cf:Nat→List Aa→Option Dv} {o:Oper} {k:CB→Bool→Option β} {x:β}
theorem IK (hO:O.CfOk cf) {f:Nat} {tys:List Nat} {rs:List Ro} {g:Nat} (h:R4 E O o f tys rs g k=some x):∃ out u,Ec E cf o f tys rs g=some (out,u)∧k out u=some x:=by
 unfold R4 at h
 split at h
 ·simp at h
 rename_i fd hfd
 split at h
 ·simp at h
 rename_i g0 os hos
 unfold Ec
 simp only[hfd]
 split at h
 ·rename_i hall
  rw[if_pos hall]
  split at h
  ·rename_i hnl
   split at h
   ·simp at h
   rename_i g1 as ks hm
   obtain ⟨hg0,h'⟩:=BY h
   obtain ⟨hg1,h''⟩:=BY h'
   clear h h'
   subst hg0 hg1
   obtain ⟨r,hr,h⟩:=hO _ _ _ _ _ h''
   obtain ⟨e1,e2⟩:=HT hos
   have hm' :=Eo hos hm
   rw[if_pos (e1.trans hnl),hm']
   simp only[hr]
   rw[e2 _ (KC hm')]
   split at h
   ·rename_i hok
    exact ⟨_,_,by rw[if_pos hok],h⟩
   ·simp at h
  ·rename_i hnl
   split at h
   ·simp at h
   rename_i g1 as ks hm
   obtain ⟨hg0,h'⟩:=BY h
   obtain ⟨hg1,h''⟩:=BY h'
   clear h h'
   subst hg0 hg1
   obtain ⟨r,hr,h⟩:=hO _ _ _ _ _ h''
   obtain ⟨e1,e2⟩:=HT hos
   have hm' :=Eo hos hm
   rw[if_neg (by rw[e1];exact hnl),hm']
   simp only[hr]
   split at h
   ·rename_i hok
    exact ⟨_,_,by rw[if_pos hok],h⟩
   ·simp at h
 ·rename_i hall
  rw[if_neg hall]
  split at h
  ·simp at h
  rename_i g1 as ks hm
  split at h
  ·rename_i hks
   obtain ⟨hg0,h'⟩:=BY h
   obtain ⟨hg1,h''⟩:=BY h'
   clear h h'
   subst hg0 hg1
   obtain ⟨r,hr,h⟩:=hO _ _ _ _ _ h''
   obtain ⟨e1,e2⟩:=HT hos
   have hm' :=Eo hos hm
   rw[hm']
   simp only
   rw[if_pos hks]
   simp only[hr]
   rw[e2 _ (KC hm')]
   split at h
   ·rename_i hok
    rw[if_pos hok]
    split at h
    ·simp at h
    ·rename_i g2 us hus
     obtain ⟨hg2,h'''⟩:=BY h
     clear h
     subst hg2
     split at h'''
     ·rename_i hnd
      simp only[FM hus]
      exact ⟨_,_,by rw[if_pos hnd],h'''⟩
     ·simp at h'''
   ·simp at h
  ·simp at h
theorem Gq {β:Type} {x:β}:∀ {tys:List Nat} {rs:List Ro} {k:List T→Option β},HZ E tys rs k=some x→∃ ts,FL E tys rs=some ts∧k ts=some x
 | [],[],k,h=>⟨[],rfl,h⟩
 | [],_::_,k,h=>by simp[HZ] at h
 | _::_,[],k,h=>by simp[HZ] at h
 | ty::tys,r::rs,k,h=>by
   simp only[HZ] at h
   obtain ⟨t,h1,h⟩:=BS h
   obtain ⟨ts,h2,h⟩:=Gq h
   exact ⟨t::ts,by simp only[FL,h1,h2],h⟩
theorem Qj {cf:Nat→List Aa→Option Dv} {rs:List Ro} {old:AA} {g:Nat} (h:∀ c,o.op ≠ .call c):BC E cf o rs old g=BC E (fun _ _=>none) o rs old g:=by
 unfold BC
 split <;>first | rfl | (rename_i c _ e;exact absurd e (h c)) | (rename_i c e;exact absurd e (h c))
theorem V7 (hO:O.CfOk cf) {rs:List Ro} {old:AA} {g:Nat} (h:fg E O o rs old g k=some x):∃ out u,BC E cf o rs old g=some (out,u)∧k out u=some x:=by
 unfold fg at h
 split at h
 ·rename_i a1 a2 a3 c y z hop
  obtain ⟨t,h1,h⟩:=BS h
  split at h
  ·rename_i b
   rcases P2 h with ⟨rfl,h⟩ | ⟨rfl,h⟩
   ·obtain ⟨out,h2,h⟩:=DF h
    exact ⟨out,false,by unfold BC;simp only[hop,h1,h2],h⟩
   ·obtain ⟨out,h2,h⟩:=DF h
    exact ⟨out,false,by unfold BC;simp only[hop,h1,h2],h⟩
  ·simp at h
 ·rename_i t a1 r hop
  obtain ⟨out,h2,h⟩:=Sl h
  exact ⟨out,false,by unfold BC;simp only[hop,h2],h⟩
 ·rename_i a1 r hop
  obtain ⟨out,h2,h⟩:=OS h
  exact ⟨out,false,by unfold BC;simp only[hop,h2],h⟩
 ·rename_i t len parts hop
  obtain ⟨out,h2,h⟩:=LA h
  exact ⟨out,true,by unfold BC;simp only[hop,h2],h⟩
 ·rename_i t a1 a2 r y hop
  split at h
  ·simp at h
  ·rename_i hd
   obtain ⟨out,row,h2,h⟩:=P7 h
   split at h
   ·rename_i hrow
    exact ⟨_,_,by unfold BC;simp only[hop,h2];rw[if_neg hd];simp only[hrow,if_true],h⟩
   ·rename_i hrow
    exact ⟨_,_,by unfold BC;simp only[hop,h2];rw[if_neg hd,if_neg hrow],h⟩
 ·rename_i op xt a1 a2 yt y z hop
  obtain ⟨u,h1,h⟩:=BS h
  obtain ⟨v,h2,h⟩:=BS h
  split at h
  ·rename_i hb
   split at h
   ·simp at h
   ·rename_i gg t ht
    obtain ⟨rfl,h⟩:=BY h
    refine ⟨_,_,?_,h⟩
    unfold BC
    simp only[hop,h1,h2,To ht,Dz]
    rw[if_pos hb]
  ·simp at h
 ·rename_i op xt a1 y hop
  obtain ⟨u,h1,h⟩:=BS h
  split at h
  ·simp at h
  ·rename_i t ht
   exact ⟨_,_,by unfold BC;simp only[hop,h1,ht,Dz],h⟩
 ·rename_i src dst a1 y hop
  obtain ⟨out,h2,h⟩:=NL h
  exact ⟨out,true,by unfold BC;simp only[hop,h2],h⟩
 ·rename_i t l c y z hop
  split at h
  ·rename_i hs
   obtain ⟨out,h2,h⟩:=Lm h
   exact ⟨out,false,by unfold BC;simp only[hop,h2];rw[if_pos hs],h⟩
  ·simp at h
 ·rename_i t a1 lo hi r rs hop
  split at h
  ·obtain ⟨out,h2,h⟩:=Fd h
   exact ⟨out,true,by unfold BC;simp only[hop,h2],h⟩
  ·obtain ⟨out,h2,h⟩:=Fd h
   exact ⟨out,true,by unfold BC;simp only[hop,h2],h⟩
  ·obtain ⟨out,h2,h⟩:=Fd h
   exact ⟨out,true,by unfold BC;simp only[hop,h2],h⟩
  ·obtain ⟨out,h2,h⟩:=Fd h
   exact ⟨out,true,by unfold BC;simp only[hop,h2],h⟩
  ·simp at h
 ·rename_i s a1 f r hop
  obtain ⟨out,h2,h⟩:=Qe h
  exact ⟨out,false,by unfold BC;simp only[hop,h2],h⟩
 ·rename_i t a1 a2 r i hop
  obtain ⟨out,h2,h⟩:=LF h
  exact ⟨out,true,by unfold BC;simp only[hop,h2],h⟩
 ·rename_i t a1 a2 r i hop
  obtain ⟨out,h2,h⟩:=Q9 h
  exact ⟨out,false,by unfold BC;simp only[hop,h2],h⟩
 ·rename_i c rs hop
  split at h
  ·rename_i b hc
   split at h
   ·rename_i t r hty
    obtain ⟨out,h2,h⟩:=TQ h
    exact ⟨out,true,by unfold BC;simp only[hop,hc,hty,h2],h⟩
   ·rename_i t1 t2 s y hty
    obtain ⟨out,h2,h⟩:=Ou h
    exact ⟨out,true,by unfold BC;simp only[hop,hc,hty,h2],h⟩
   ·obtain ⟨ts,h2,h⟩:=Gq h
    split at h
    ·rename_i t ts
     split at h
     ·simp at h
     ·rename_i r hr
      exact ⟨_,_,by unfold BC;simp only[hop,hc,h2,F2 hr,Dz],h⟩
    ·simp at h
   ·obtain ⟨ts,h2,h⟩:=Gq h
    split at h
    ·rename_i t ts
     split at h
     ·simp at h
     ·rename_i r hr
      exact ⟨_,_,by unfold BC;simp only[hop,hc,h2,F2 hr,Dz],h⟩
    ·simp at h
   ·simp at h
  ·rename_i f hc
   obtain ⟨out,u,h2,h⟩:=IK hO h
   exact ⟨out,u,by unfold BC;simp only[hop,hc,h2],h⟩
  ·rename_i X hX hc
   split at h
   ·obtain ⟨out,u,h2,h⟩:=IK hO h
    refine ⟨out,u,?_,h⟩
    unfold BC
    cases X with
    | func f=>exact absurd rfl (hX f)
    | _=>simp only[hop,hc,h2]
   ·obtain ⟨out,u,h2,h⟩:=IK hO h
    refine ⟨out,u,?_,h⟩
    unfold BC
    cases X with
    | func f=>exact absurd rfl (hX f)
    | _=>simp only[hop,hc,h2]
   ·simp at h
  ·simp at h
 ·unfold fall at h
  split at h
  ·simp at h
  ·rename_i out u hr
   refine ⟨out,u,?_,h⟩
   rw[Qj]
   ·exact hr
   ·intro c hc
    simp_all
end
section
variable {β:Type} {E:Av} {O:BF} {cf:Nat→List Aa→Option Dv} {o:Oper} {x:β}
theorem Tb (hO:O.CfOk cf) {ops:Array Oper} {f:List Nat} {σ:AS} {k:Ez→Option β} (hg:GU ops σ.env o=some (true,f)) (h:aq E O o f σ k=some x):∃ st,C9 E cf ops o σ=some st∧k st=some x:=by
 unfold aq at h
 obtain ⟨out,u,h1,h⟩:=V7 hO h
 split at h
 ·rename_i hfr
  refine ⟨_,?_,h⟩
  unfold C9
  simp only[hg,h1]
  rw[if_pos hfr]
  rfl
 ·simp at h
theorem Qm {a:Bool} {p:List Pm} {b:Bool} {dd:Do} {pin:Nat}:∀ {env:List (Nat × AA)} {d:Nat},AG env d = .val a p [.bool b] dd pin→W7 env d b=env
 | [],d,h=>by simp[AG] at h
 | (j,s)::r,d,h=>by
   simp only[AG] at h
   simp only[W7]
   split at h
   ·rename_i e
    subst e h
    simp[AA.withBool]
   ·rename_i e
    have:Nat.beq j d=false:=by
     cases hb:Nat.beq j d with
     | true=>exact absurd (by simpa using hb) e
     | false=>rfl
    rw[this]
    simp only[Qm h]
theorem TI {ops:Array Oper} {σ:AS} {k:AS→Option β} (h:YC ops o σ k=some x):k σ=some x:=by
 unfold YC at h
 split at h
 ·exact h
 ·split at h
  ·simp at h
  split at h
  ·rename_i b _ _ hget
   rcases P2 h with ⟨rfl,h⟩ | ⟨rfl,h⟩
   ·rw[Qm hget] at h;exact h
   ·rw[Qm hget] at h;exact h
  ·exact h
theorem Rn (hO:O.CfOk cf) {ops:Array Oper} {σ:AS} {k:Ez→Option β} (h:Ww E O ops o σ k=some x):∃ st,C9 E cf ops o σ=some st∧k st=some x:=by
 unfold Ww at h
 split at h
 ·simp at h
 ·rename_i f hg
  exact Tb hO hg h
 ·rename_i f hg
  refine ⟨_,?_,h⟩
  unfold C9
  simp only[hg]
theorem JK (hO:O.CfOk cf) {ops:Array Oper}:∀ {l:List Oper} {σ:AS} {fs:List (List Nat × List Nat)} {k:AS→List (List Nat × List Nat)→Option β},Kn E O ops l σ fs k=some x →
  ∃ σ' fs',IP E cf ops l σ=some (σ',fs')∧k σ' (fs.reverse++fs')=some x
 | [],σ,fs,k,h=>⟨σ,[],rfl,by simpa [Kn] using h⟩
 | o::l,σ,fs,k,h=>by
   simp only[Kn] at h
   obtain ⟨st,h1,h⟩:=Rn hO (TI h)
   obtain ⟨σ',fs',h2,h⟩:=JK hO h
   refine ⟨σ',(st.foot,st.writes)::fs',by simp only[IP,h1,h2],?_⟩
   simpa using h
def JB (O:BF) (E:Av) (cf:Nat→List Aa→Option Dv) (n:Nat) (keep:List (Nat × List Nat)):Code→Prop
 | .loop body=>∀ (β:Type) (σ:AS) (k:Ex→AS→Option β) (x:β),O.lp (Zq body) (settle (Bq keep (CI body)) σ) k=some x →
    ∃ ex σ',Af E cf n keep (.loop body) σ=some (ex,σ')∧k ex σ'=some x
 | .seq a b=>JB O E cf n keep a∧JB O E cf n keep b
 | .cond _ a b=>JB O E cf n keep a∧JB O E cf n keep b
 | .block _ a=>JB O E cf n keep a
 | _=>True
theorem L9 (hO:O.CfOk cf) {n:Nat} {keep:List (Nat × List Nat)}:∀ {c:Code} {σ:AS} {k:Ex→AS→Option β},JB O E cf n keep c→F4 E O keep c σ k=some x →
  ∃ ex σ',Af E cf n keep c σ=some (ex,σ')∧k ex σ'=some x:=by
 intro c
 induction c with
 | skip=>intro σ k _ h;exact ⟨_,_,rfl,h⟩
 | region id ops draw =>
   intro σ k _ h
   simp only[F4,rg] at h
   obtain ⟨σ',fs',h1,h⟩:=JK hO h
   split at h
   ·rename_i hr
    refine ⟨_,_,?_,h⟩
    simp only[Af,LJ,h1]
    rw[if_pos (by simpa using hr)]
   ·simp at h
 | seq a b iha ihb =>
   intro σ k hl h
   simp only[F4] at h
   obtain ⟨ex,σ',h1,h⟩:=iha hl.1 h
   cases ex with
   | normal =>
     obtain ⟨ex2,σ2,h2,h⟩:=ihb hl.2 h
     exact ⟨ex2,σ2,by simp only[Af,h1,h2],h⟩
   | exit id=>exact ⟨_,_,by simp only[Af,h1],h⟩
   | ret=>exact ⟨_,_,by simp only[Af,h1],h⟩
 | cond c a b iha ihb =>
   intro σ k hl h
   simp only[F4] at h
   obtain ⟨t,h1,h⟩:=BS h
   split at h
   ·rename_i v
    rcases P2 h with ⟨rfl,h⟩ | ⟨rfl,h⟩
    ·obtain ⟨ex,σ',h2,h⟩:=iha hl.1 h
     exact ⟨ex,σ',by simp only[Af,h1,h2],h⟩
    ·obtain ⟨ex,σ',h2,h⟩:=ihb hl.2 h
     exact ⟨ex,σ',by simp only[Af,h1,h2],h⟩
   ·simp at h
 | block id a iha =>
   intro σ k hl h
   simp only[F4] at h
   obtain ⟨ex,σ',h1,h⟩:=iha hl h
   cases ex with
   | normal=>exact ⟨_,_,by simp only[Af,h1],h⟩
   | exit id' =>
     simp only at h
     split at h
     ·rename_i e
      exact ⟨_,_,by simp only[Af,h1];rw[if_pos e],h⟩
     ·rename_i e
      exact ⟨_,_,by simp only[Af,h1];rw[if_neg e],h⟩
   | ret=>exact ⟨_,_,by simp only[Af,h1],h⟩
 | loop a _ =>
   intro σ k hl h
   exact hl _ _ _ _ h
 | exit id=>intro σ k _ h;exact ⟨_,_,rfl,h⟩
 | ret=>intro σ k _ h;exact ⟨_,_,rfl,h⟩
 | _=>intro σ k _ h;simp[F4] at h
theorem VS {V X:Type} {n:Nat} {keep:List (Nat × List Nat)} {body:Code} (enc:V→AS) (de:AS→Option V) (hde:∀ σ v,de σ=some v→σ=enc v) (L:Nat→V→Option X) (dec:Ex→AS→Option X)
  (hO:O.CfOk cf) (hl:JB O E cf n keep body) (h0:∀ v,L 0 v=none)
  (hs:∀ m v,L (m+1) v=F4 E O keep body (enc v) (fun ex σ'=>match ex with
    | .normal=>bd (de (settle (Bq keep (CI body)) σ')) (L m)
    | .exit id=>dec (.exit id) (settle (Bq keep (KQ body)) σ')
    | .ret=>dec .ret (settle (Bq keep (KQ body)) σ'))) :
  ∀ m v x,L m v=some x→∃ ex σ',Im (Bq keep (KQ body)) (K1 m (settle (Bq keep (CI body))) (Af E cf n keep body) (enc v))=some (ex,σ')∧dec ex σ'=some x:=by
 intro m
 induction m with
 | zero=>intro v x h;rw[h0] at h;simp at h
 | succ m ih =>
   intro v x h
   rw[hs] at h
   obtain ⟨ex,σ',h1,h⟩:=L9 hO hl h
   cases ex with
   | normal =>
     obtain ⟨v',hv,h⟩:=DR h
     obtain ⟨ex2,σ2,h2,h3⟩:=ih v' x h
     refine ⟨ex2,σ2,?_,h3⟩
     simp only[K1,h1,hde _ _ hv,h2]
   | exit id=>exact ⟨_,_,by simp only[K1,h1,Im],h⟩
   | ret=>exact ⟨_,_,by simp only[K1,h1,Im],h⟩
theorem VN {n f:Nat} {as:List Aa} {c:Code} {modes:List Cn} {outs:List Nat} {results:List (Nat × Option (Bool × Nat))} {keep:List (Nat × List Nat)} {k:Dv→Option β} (hf:E.fn f=some (.code c modes outs results keep))
  (hO:O.CfOk (Ab E n)) (hl:JB O E (Ab E n) n keep c) (h:eu E O f as k=some x):∃ r,Ab E (n+1) f as=some r∧k r=some x:=by
 unfold eu at h
 simp only[hf] at h
 split at h
 ·rename_i hs
  obtain ⟨ex,σ',h1,h⟩:=L9 hO hl h
  split at h
  ·simp at h
  ·rename_i r hr
   refine ⟨r,?_,h⟩
   simp only[Ab,hf,h1]
   rw[if_pos hs];exact hr
 ·simp at h
end
structure B4 (V:Type) where
 pk:V→List BK
 up:List BK→Option V
 ok:∀ ls v,up ls=some v→ls=pk v:=by intro _ _ h;split at h <;>cases h;rfl
def am:Ex→Ex→Bool
 | .normal,.normal=>true
 | .exit a,.exit b=>Nat.beq a b
 | .ret,.ret=>true
 | _,_=>false
theorem YT {a b:Ex} (h:am a b=true):a=b:=by
 cases a <;>cases b <;>simp[am] at h <;>first | rfl | rw[h]
def sm {A B γ:Type} (x:A ⊕ B) (f:A→γ) (g:B→γ):γ:=match x with
 | .inl a=>f a
 | .inr b=>g b
structure Fy (X:Type) where
 dec:Ex→AS→Option X
 out : {β:Type}→X→(Ex→AS→Option β)→Option β
 ok:∀ ex σ x,dec ex σ=some x→∀ (β:Type) (k:Ex→AS→Option β),out x k=k ex σ
def Fy.one {A:Type} (e:Ex) (P:AS) (S:B4 A):Fy A where
 dec:=fun ex σ=>match am e ex with
  | true=>bd (O1 P σ) S.up
  | false=>none
 out:=fun x k=>k e (U4 P (S.pk x))
 ok:=by
  intro ex σ x h β k
  split at h
  ·rename_i he
   obtain ⟨ls,h1,h2⟩:=DR h
   rw[YT he,← S.ok _ _ h2,Qo h1]
  ·simp at h
def Fy.or {A B:Type} (a:Fy A) (b:Fy B):Fy (A ⊕ B) where
 dec:=fun ex σ=>match a.dec ex σ with
  | some x=>some (.inl x)
  | none=>match b.dec ex σ with
    | some y=>some (.inr y)
    | none=>none
 out:=fun x k=>sm x (fun x=>a.out x k) (fun y=>b.out y k)
 ok:=by
  intro ex σ x h β k
  split at h
  ·rename_i y hy
   simp only[zS] at h
   subst h
   exact a.ok _ _ _ hy _ _
  ·split at h
   ·rename_i y hy
    simp only[zS] at h
    subst h
    exact b.ok _ _ _ hy _ _
   ·simp at h
structure AZ (X:Type) where
 dec:Dv→Option X
 out : {β:Type}→X→(Dv→Option β)→Option β
 enc:X→Dv
 ok:∀ r x,dec r=some x→enc x=r
 ok':∀ x (β:Type) (k:Dv→Option β),out x k=k (enc x)
def AZ.one {A:Type} (P:Dv) (S:B4 A):AZ A where
 dec:=fun r=>bd (iZ P r) S.up
 out:=fun x k=>k (ey P (S.pk x))
 enc:=fun x=>ey P (S.pk x)
 ok:=by
  intro r x h
  obtain ⟨ls,h1,h2⟩:=DR h
  rw[← S.ok _ _ h2,cH h1]
 ok' :=fun _ _ _=>rfl
def AZ.or {A B:Type} (a:AZ A) (b:AZ B):AZ (A ⊕ B) where
 dec:=fun r=>match a.dec r with
  | some x=>some (.inl x)
  | none=>match b.dec r with
    | some y=>some (.inr y)
    | none=>none
 out:=fun x k=>sm x (fun x=>a.out x k) (fun y=>b.out y k)
 enc:=fun x=>sm x a.enc b.enc
 ok:=by
  intro r x h
  split at h
  ·rename_i y hy
   simp only[zS] at h
   subst h
   exact a.ok _ _ hy
  ·split at h
   ·rename_i y hy
    simp only[zS] at h
    subst h
    exact b.ok _ _ hy
   ·simp at h
 ok' :=by
  intro x β k
  cases x with
  | inl x=>exact a.ok' x β k
  | inr x=>exact b.ok' x β k
structure A7 (E:Av) where
 no:Nat
 fits:List Aa→Bool
 W : {β:Type}→Nat→List Aa→(Dv→Option β)→Option β
 ok:∀ n (β:Type) as (k:Dv→Option β) x,W n as k=some x→∃ r,Ab E n no as=some r∧k r=some x
def ZJ {E:Av} {β:Type}:List (A7 E)→Nat→Nat→List Aa→(Dv→Option β)→Option β
 | [],_,_,_,_=>none
 | w::ws,n,f,as,k=>match Nat.beq w.no f&&w.fits as with
   | true=>w.W n as k
   | false=>ZJ ws n f as k
structure GT where
 no:Nat
 W : {β:Type}→AS→(Ex→AS→Option β)→Option β
def cm {β:Type}:List GT→Nat→AS→(Ex→AS→Option β)→Option β
 | [],_,_,_=>none
 | w::ws,i,σ,k=>match Nat.beq w.no i with
   | true=>w.W σ k
   | false=>cm ws i σ k
def AL {E:Av} (fs:List (A7 E)) (ls:List GT) (n:Nat):BF:=⟨fun f as k=>ZJ fs n f as k,fun i σ k=>cm ls i σ k⟩
theorem KO {E:Av} (fs:List (A7 E)) (ls:List GT) (n:Nat):(AL fs ls n).CfOk (Ab E n):=by
 intro β f as k x h
 simp only[AL] at h
 induction fs with
 | nil=>simp[ZJ] at h
 | cons w ws ih =>
   simp only[ZJ] at h
   split at h
   ·rename_i e
    simp only[zB,Nat.beq_eq] at e
    obtain ⟨rfl,-⟩:=e
    exact w.ok n β as k x h
   ·exact ih h
def GT.of {V X:Type} (no:Nat) (P:AS) (S:B4 V) (A:Fy X) (F:V→Option X):GT:=⟨no,fun σ k=>bd (O1 P σ) fun ls=>bd (S.up ls) fun v=>bd (F v) fun x=>A.out x k⟩
theorem ZM {E:Av} {O:BF} {cf:Nat→List Aa→Option Dv} {V X:Type} {n:Nat} {keep:List (Nat × List Nat)} {body:Code} (P:AS) (S:B4 V) (A:Fy X) (L:Nat→V→Option X)
  (hO:O.CfOk cf) (hl:JB O E cf n keep body) (h0:∀ v,L 0 v=none)
  (hs:∀ m v,L (m+1) v=F4 E O keep body (U4 P (S.pk v)) (fun ex σ'=>match ex with
    | .normal=>bd (O1 P (settle (Bq keep (CI body)) σ')) fun ls=>bd (S.up ls) (L m)
    | .exit id=>A.dec (.exit id) (settle (Bq keep (KQ body)) σ')
    | .ret=>A.dec .ret (settle (Bq keep (KQ body)) σ')))
  (hW:∀ (β:Type) (σ:AS) (k:Ex→AS→Option β),O.lp (Zq body) σ k=bd (O1 P σ) fun ls=>bd (S.up ls) fun v=>bd (L n v) fun x=>A.out x k):JB O E cf n keep (.loop body):=by
 have hL:=VS (cf:=cf) (n:=n) (fun v=>U4 P (S.pk v)) (fun σ=>bd (O1 P σ) S.up) (fun σ v h=>by
  obtain ⟨ls,h1,h2⟩:=DR h
  rw[← S.ok _ _ h2,Qo h1]) L A.dec hO hl h0 (fun m v=>by
   rw[hs]
   congr 1
   funext ex σ'
   cases ex with
   | normal =>
     simp only
     cases O1 P (settle (Bq keep (CI body)) σ') <;>rfl
   | _=>rfl)
 intro β σ k x h
 rw[hW] at h
 obtain ⟨ls,h1,h⟩:=DR h
 obtain ⟨v,h2,h⟩:=DR h
 obtain ⟨y,h3,h⟩:=DR h
 obtain ⟨ex,σ',h4,h5⟩:=hL n v y h3
 rw[A.ok _ _ _ h5] at h
 refine ⟨ex,σ',?_,h⟩
 simp only[Af]
 rw[← Qo h1,S.ok _ _ h2,h4]
theorem XE {O:BF} {E:Av} {cf:Nat→List Aa→Option Dv} {n:Nat} {keep:List (Nat × List Nat)}:∀ {c:Code},(∀ b∈CD c,JB O E cf n keep (.loop b))→JB O E cf n keep c:=by
 intro c
 induction c with
 | loop b _=>intro h;exact h b (by simp[CD])
 | seq a b iha ihb=>intro h;exact ⟨iha fun x hx=>h x (by simp[CD,hx]),ihb fun x hx=>h x (by simp[CD,hx])⟩
 | cond _ a b iha ihb=>intro h;exact ⟨iha fun x hx=>h x (by simp[CD,hx]),ihb fun x hx=>h x (by simp[CD,hx])⟩
 | block _ a iha=>intro h;exact iha h
 | _=>intro h;trivial
inductive PI (O:BF) (E:Av) (cf:Nat→List Aa→Option Dv) (n:Nat) (keep:List (Nat × List Nat)):List Code→Prop
 | nil:PI O E cf n keep []
 | cons {b bs} (h:JB O E cf n keep (.loop b)) (t:PI O E cf n keep bs):PI O E cf n keep (b::bs)
theorem MW {O:BF} {E:Av} {cf:Nat→List Aa→Option Dv} {n:Nat} {keep:List (Nat × List Nat)} {c:Code} {bs:List Code} (h:CD c=bs) (ha:PI O E cf n keep bs):JB O E cf n keep c:=by
 refine XE ?_
 rw[h]
 clear h
 induction ha with
 | nil=>simp
 | cons h _ ih =>
   intro b hb
   rw[mem_cons] at hb
   rcases hb with rfl | hb
   ·exact h
   ·exact ih b hb
def BL {E:Av} {V X:Type} (no:Nat) (P:List Aa) (S:B4 V) (A:AZ X) (F:Nat→V→Option X) (h:∀ n v x,F n v=some x→Ab E n no (Gg P (S.pk v))=some (A.enc x)):A7 E where
 no:=no
 fits:=fun as=>(Hh P as []).isSome
 W:=fun n as k=>bd (Hh P as []) fun ls=>bd (S.up ls) fun v=>bd (F n v) fun x=>A.out x k
 ok:=by
  intro n β as k x hh
  obtain ⟨ls,h1,hh⟩:=DR hh
  obtain ⟨v,h2,hh⟩:=DR hh
  obtain ⟨y,h3,hh⟩:=DR hh
  have:=h n v y h3
  rw[← S.ok _ _ h2,Yb h1] at this
  refine ⟨_,this,?_⟩
  rw[A.ok'] at hh;exact hh
theorem QB {E:Av} {V X:Type} {no:Nat} {P:List Aa} {S:B4 V} {A:AZ X} {F:Nat→V→Option X} {c:Code} {modes:List Cn} {outs:List Nat} {results:List (Nat × Option (Bool × Nat))} {keep:List (Nat × List Nat)} (O:Nat→BF)
  (hf:E.fn no=some (.code c modes outs results keep)) (hO:∀ n,(O n).CfOk (Ab E n)) (hl:∀ n,JB (O n) E (Ab E n) n keep c)
  (h0:∀ v,F 0 v=none) (hs:∀ n v,F (n+1) v=eu E (O n) no (Gg P (S.pk v)) A.dec) :
  ∀ n v x,F n v=some x→Ab E n no (Gg P (S.pk v))=some (A.enc x):=by
 intro n v x h
 cases n with
 | zero=>rw[h0] at h;simp at h
 | succ n =>
   rw[hs] at h
   obtain ⟨r,h1,h2⟩:=VN hf (hO n) (hl n) h
   rw[h1,A.ok _ _ h2]
structure jA (E:Av) (n:Nat) where
 no:Nat
 fits:List Aa→Bool
 W : {β:Type}→List Aa→(Dv→Option β)→Option β
 ok:∀ (β:Type) as (k:Dv→Option β) x,W as k=some x→∃ r,Ab E n no as=some r∧k r=some x
def A7.at {E:Av} (w:A7 E) (n:Nat):jA E n:=⟨w.no,w.fits,fun as k=>w.W n as k,fun β as k x h=>w.ok n β as k x h⟩
def Ob (t:T):Option (List (Bool × List Pm × List T)):=some [(false,[.leaf],[t])]
def Ct:List T→Option (List (Bool × List Pm × List T))
 | [.int .u32 n]=>if 0≤n then Ob (.flt .f32 (As .f32 n.toNat)) else none
 | _=>none
def BR:List T→Option (List (Bool × List Pm × List T))
 | [.int .u64 n]=>if 0≤n then Ob (.flt .f64 (As .f64 n.toNat)) else none
 | [.opq]=>Ob (.flt .f64 (EW .f64))
 | _=>none
def F1:List T→Option (List (Bool × List Pm × List T))
 | [.flt .f32 x]=>if isNaN .f32 x then none else Ob (.int .u32 x)
 | _=>none
def DH:List T→Option (List (Bool × List Pm × List T))
 | [.flt .f64 x]=>if isNaN .f64 x then Ob .opq else Ob (.int .u64 x)
 | _=>none
def Me (x:Nat):Nat:=if isNaN .f64 x then EW .f64 else x % 9223372036854775808
def Rk:List T→Option (List (Bool × List Pm × List T))
 | [.flt .f64 x]=>if x<18446744073709551616 then Ob (.flt .f64 (Me x)) else none
 | _=>none
def D1:List T→Option (List (Bool × List Pm × List T))
 | [.flt .f64 x,.flt .f64 s]=>if isNaN .f64 s then none else if isNaN .f64 x then none else
     if x<18446744073709551616∧s<18446744073709551616 then Ob (.flt .f64 (x % 9223372036854775808+s / 9223372036854775808 * 9223372036854775808)) else none
 | _=>none
def BV (way:Ieee.Toward) (x:Nat):Nat:=match FloatKind.f64.decode x with
 | .nan _ _=>EW .f64
 | d=>FloatKind.f64.encode (d.integral way)
def DQ (way:Ieee.Toward):List T→Option (List (Bool × List Pm × List T))
 | [.flt .f64 x]=>Ob (.flt .f64 (BV way x))
 | _=>none
def eM:List T→Option (List (Bool × List Pm × List T))
 | [.flt .f64 x]=>Ob (VA .f64 (FloatKind.f64.format.sqrt x))
 | _=>none
def ar (W:Nat):List Aa→Option Dv
 | [⟨.io,⟨false,[.sl .own el],[.lst n cs]⟩⟩,⟨.val,⟨false,[.leaf],[.int .i64 i]⟩⟩,⟨.val,⟨false,[.leaf],[.int .i64 j]⟩⟩] =>
   if el.length=W∧0<W∧A8 0 el=true∧0≤i∧i≤j∧j≤(n:Int) then
    some ⟨[⟨false,[.sl .own el],[.lst (n - (j.toNat - i.toNat)) (cs.take (i.toNat * W)++cs.drop (j.toNat * W))]⟩],[some ⟨false,[.dead],[.lst n cs]⟩,none,none]⟩
   else none
 | _=>none
def bB:List Aa→Option Dv
 | [⟨.io,⟨false,[.sl .own [.leaf]],[.lst n cs]⟩⟩]=>if n<4611686018427387904 then some ⟨[],[some ⟨false,[.sl .own [.leaf]],[.lst n cs.reverse]⟩]⟩ else none
 | _=>none
def NX (W:Nat) (p:List T→Option Bool):Nat→List T→Option (Nat × List T)
 | 0,_=>some (0,[])
 | n+1,cs=>match p (cs.take W) with
   | none=>none
   | some b=>match NX W p n (cs.drop W) with
     | none=>none
     | some (m,ds)=>some (match b with
       | true=>(m,ds)
       | false=>(m+1,cs.take W++ds))
def Pp (fc:Nat) (el ps:List Pm) (pr:List T→List T→Option Bool):List Aa→Option Dv
 | [⟨.io,⟨false,[.sl .own el'],[.lst n cs]⟩⟩,⟨.val,⟨false,[.fn qs],[.fn f ts]⟩⟩] =>
   if pbeqs el' el=true∧0<el.length∧A8 0 el=true∧f=fc∧pbeqs qs ps=true∧n<4611686018427387904 then match NX el.length (pr ts) n cs with
    | none=>none
    | some (m,ds)=>some ⟨[⟨false,[.sl .own el],[.lst m ds]⟩],[some ⟨false,[.dead],[.lst n cs]⟩,none]⟩
   else none
 | _=>none
def QH:List T→List T→Option Bool
 | [.ref [.int .i64 k]],.int .i64 a::_=>some (a==k)
 | _,_=>none
def T7:List T→List T→Option Bool
 | [],[.int .i64 k,_,.lst _ xs]=>match k==0 with
   | false=>some false
   | true=>match xs with
     | .flt .f32 x::_=>some (FloatKind.f32.format.order x 1065353216==some .eq)
     | _=>none
 | _,_=>none
def Qr (el:List Pm):List Aa→Option Dv
 | [⟨.io,⟨false,[.sl .own a],[.lst n cs]⟩⟩,⟨.val,⟨false,[.leaf],[.int .i64 i]⟩⟩,⟨.io,⟨false,[.sl .own b],[.lst m ds]⟩⟩] =>
   if pbeqs a el=true∧pbeqs b el=true∧0<el.length∧A8 0 el=true∧m=1∧0≤i∧i≤(n:Int)∧0<n∧n<1000000 then
    some ⟨[⟨false,[.sl .own el],[.lst (n+1) (cs.take (i.toNat * el.length)++ds++cs.drop (i.toNat * el.length))]⟩],[some ⟨false,[.dead],[.lst n cs]⟩,none,some ⟨false,[.dead],[.lst m ds]⟩]⟩
   else none
 | _=>none
def HM:B4 Nat where
 pk:=fun v=>[.flt v]
 up:=fun ls=>match ls with
  | [.flt a]=>some a
  | _=>none
 ok:=by
  intro ls v h
  split at h
  ·cases h;rfl
  ·cases h
def VV:B4 Int where
 pk:=fun v=>[.int v]
 up:=fun ls=>match ls with
  | [.int a]=>some a
  | _=>none
 ok:=by
  intro ls v h
  split at h
  ·cases h;rfl
  ·cases h
def Zr:B4 (Nat × Nat) where
 pk:=fun v=>[.flt v.1,.flt v.2]
 up:=fun ls=>match ls with
  | [.flt a,.flt b]=>some (a,b)
  | _=>none
 ok:=by
  intro ls v h
  split at h
  ·cases h;rfl
  ·cases h
def Jp (k:FloatKind):Aa:=⟨.val,⟨false,[.leaf],[.flt k 0]⟩⟩
def Oz (k:IntKind):Aa:=⟨.val,⟨false,[.leaf],[.int k 0]⟩⟩
def Qv (k:FloatKind) (n:Nat):Dv:=⟨[⟨false,[.leaf],[.flt k 0]⟩],List.replicate n none⟩
def dH (k:IntKind):Dv:=⟨[⟨false,[.leaf],[.int k 0]⟩],[none]⟩
def E6 (n:Nat) (x:Nat):Option Int:=match n with
 | 0=>none
 | _+1=>if isNaN .f32 x then none else some (x:Int)
def BM (n:Nat) (x:Nat):Option Int:=match n with
 | 0=>none
 | _+1=>if isNaN .f64 x then none else some (x:Int)
def DP (n:Nat) (i:Int):Option Nat:=match n with
 | 0=>none
 | _+1=>if 0≤i then some (As .f32 i.toNat) else none
def Ao (n:Nat) (i:Int):Option Nat:=match n with
 | 0=>none
 | _+1=>if 0≤i then some (As .f64 i.toNat) else none
def Oe (n:Nat) (x:Nat):Option Nat:=match n with
 | 0=>none
 | _+1=>if x<18446744073709551616 then some (Me x) else none
def Ei (n:Nat) (x s:Nat):Option Nat:=match n with
 | 0=>none
 | _+1=>if isNaN .f64 s then none else if isNaN .f64 x then none else
    if x<18446744073709551616∧s<18446744073709551616 then some (x % 9223372036854775808+s / 9223372036854775808 * 9223372036854775808) else none
def EQ (n:Nat) (x:Nat):Option Nat:=match n with
 | 0=>none
 | _+1=>some (BV .down x)
def Cc (n:Nat) (x:Nat):Option Nat:=match n with
 | 0=>none
 | _+1=>some (BV .zero x)
def ES (n:Nat) (x:Nat):Option Nat:=match n with
 | 0=>none
 | _+1=>some (BV .even x)
def cX (x:Nat):Nat:=match FloatKind.f64.format.sqrt x with
 | some b=>b
 | none=>EW .f64
def UR (n:Nat) (x:Nat):Option Nat:=match n with
 | 0=>none
 | _+1=>some (cX x)
section
variable {E:Av} (no:Nat)
noncomputable def E6.w (h:E.fn no=some (.ext F1)):A7 E:=BL no [Jp .f32] HM (.one (dH .u32) VV) E6 (by
 intro n x r hh
 cases n with
 | zero=>simp[E6] at hh
 | succ n =>
   simp only[E6] at hh
   split at hh
   ·simp at hh
   ·rename_i hn
    simp only[zS] at hh
    subst hh
    have:Ab E (n+1) no (Gg [Jp .f32] (HM.pk x))=(match F1 [.flt .f32 x] with
     | none=>none
     | some rs=>some ⟨rs.map fun x=>⟨x.1,x.2.1,x.2.2⟩,[none]⟩):=by simp only[Ab,h];rfl
    rw[this]
    simp only[F1,hn,if_false]
    rfl)
noncomputable def BM.w (h:E.fn no=some (.ext DH)):A7 E:=BL no [Jp .f64] HM (.one (dH .u64) VV) BM (by
 intro n x r hh
 cases n with
 | zero=>simp[BM] at hh
 | succ n =>
   simp only[BM] at hh
   split at hh
   ·simp at hh
   ·rename_i hn
    simp only[zS] at hh
    subst hh
    have:Ab E (n+1) no (Gg [Jp .f64] (HM.pk x))=(match DH [.flt .f64 x] with
     | none=>none
     | some rs=>some ⟨rs.map fun x=>⟨x.1,x.2.1,x.2.2⟩,[none]⟩):=by simp only[Ab,h];rfl
    rw[this]
    simp only[DH,hn,if_false]
    rfl)
noncomputable def DP.w (h:E.fn no=some (.ext Ct)):A7 E:=BL no [Oz .u32] VV (.one (Qv .f32 1) HM) DP (by
 intro n x r hh
 cases n with
 | zero=>simp[DP] at hh
 | succ n =>
   simp only[DP] at hh
   split at hh
   ·rename_i hn
    simp only[zS] at hh
    subst hh
    have:Ab E (n+1) no (Gg [Oz .u32] (VV.pk x))=(match Ct [.int .u32 x] with
     | none=>none
     | some rs=>some ⟨rs.map fun x=>⟨x.1,x.2.1,x.2.2⟩,[none]⟩):=by simp only[Ab,h];rfl
    rw[this]
    simp only[Ct,hn,if_true]
    rfl
   ·simp at hh)
noncomputable def Ao.w (h:E.fn no=some (.ext BR)):A7 E:=BL no [Oz .u64] VV (.one (Qv .f64 1) HM) Ao (by
 intro n x r hh
 cases n with
 | zero=>simp[Ao] at hh
 | succ n =>
   simp only[Ao] at hh
   split at hh
   ·rename_i hn
    simp only[zS] at hh
    subst hh
    have:Ab E (n+1) no (Gg [Oz .u64] (VV.pk x))=(match BR [.int .u64 x] with
     | none=>none
     | some rs=>some ⟨rs.map fun x=>⟨x.1,x.2.1,x.2.2⟩,[none]⟩):=by simp only[Ab,h];rfl
    rw[this]
    simp only[BR,hn,if_true]
    rfl
   ·simp at hh)
noncomputable def Oe.w (h:E.fn no=some (.ext Rk)):A7 E:=BL no [Jp .f64] HM (.one (Qv .f64 1) HM) Oe (by
 intro n x r hh
 cases n with
 | zero=>simp[Oe] at hh
 | succ n =>
   simp only[Oe] at hh
   split at hh
   ·rename_i hn
    simp only[zS] at hh
    subst hh
    have:Ab E (n+1) no (Gg [Jp .f64] (HM.pk x))=(match Rk [.flt .f64 x] with
     | none=>none
     | some rs=>some ⟨rs.map fun x=>⟨x.1,x.2.1,x.2.2⟩,[none]⟩):=by simp only[Ab,h];rfl
    rw[this]
    simp only[Rk,hn,if_true]
    rfl
   ·simp at hh)
noncomputable def Ei.w (h:E.fn no=some (.ext D1)):A7 E:=BL no [Jp .f64,Jp .f64] Zr (.one (Qv .f64 2) HM) (fun n v=>Ei n v.1 v.2) (by
 intro n x r hh
 cases n with
 | zero=>simp[Ei] at hh
 | succ n =>
   simp only[Ei] at hh
   have:Ab E (n+1) no (Gg [Jp .f64,Jp .f64] (Zr.pk x))=(match D1 [.flt .f64 x.1,.flt .f64 x.2] with
     | none=>none
     | some rs=>some ⟨rs.map fun x=>⟨x.1,x.2.1,x.2.2⟩,[none,none]⟩):=by simp only[Ab,h];rfl
   rw[this]
   simp only[D1]
   split at hh
   ·simp at hh
   ·rename_i hn
    split at hh
    ·simp at hh
    ·rename_i hx
     split at hh
     ·rename_i hb
      simp only[zS] at hh
      subst hh
      simp only[hn,hx,hb,if_false,if_true]
      rfl
     ·simp at hh)
theorem Ij {way:Ieee.Toward} (h:E.fn no=some (.ext (DQ way))) (n:Nat) (x:Nat):Ab E (n+1) no (Gg [Jp .f64] (HM.pk x))=some ((AZ.one (Qv .f64 1) HM).enc (BV way x)):=by
 simp only[Ab,h];rfl
noncomputable def EQ.w (h:E.fn no=some (.ext (DQ .down))):A7 E:=BL no [Jp .f64] HM (.one (Qv .f64 1) HM) EQ (by
 intro n x r hh
 cases n with
 | zero=>simp[EQ] at hh
 | succ n =>
   simp only[EQ,zS] at hh
   rw[← hh];exact Ij no h n x)
noncomputable def Cc.w (h:E.fn no=some (.ext (DQ .zero))):A7 E:=BL no [Jp .f64] HM (.one (Qv .f64 1) HM) Cc (by
 intro n x r hh
 cases n with
 | zero=>simp[Cc] at hh
 | succ n =>
   simp only[Cc,zS] at hh
   rw[← hh];exact Ij no h n x)
noncomputable def ES.w (h:E.fn no=some (.ext (DQ .even))):A7 E:=BL no [Jp .f64] HM (.one (Qv .f64 1) HM) ES (by
 intro n x r hh
 cases n with
 | zero=>simp[ES] at hh
 | succ n =>
   simp only[ES,zS] at hh
   rw[← hh];exact Ij no h n x)
noncomputable def UR.w (h:E.fn no=some (.ext eM)):A7 E:=BL no [Jp .f64] HM (.one (Qv .f64 1) HM) UR (by
 intro n x r hh
 cases n with
 | zero=>simp[UR] at hh
 | succ n =>
   simp only[UR,zS] at hh
   rw[← hh]
   simp only[Ab,h]
   rfl)
end
def Wx:B4 (Nat × List T × Int × Int) where
 pk:=fun v=>[.lst v.1 v.2.1,.int v.2.2.1,.int v.2.2.2]
 up:=fun ls=>match ls with
  | [.lst a b,.int c,.int d]=>some (a,b,c,d)
  | _=>none
 ok:=by
  intro ls v h
  split at h
  ·cases h;rfl
  ·cases h
def W5:B4 (Nat × List T × Nat × List T) where
 pk:=fun v=>[.lst v.1 v.2.1,.lst v.2.2.1 v.2.2.2]
 up:=fun ls=>match ls with
  | [.lst a b,.lst c d]=>some (a,b,c,d)
  | _=>none
 ok:=by
  intro ls v h
  split at h
  ·cases h;rfl
  ·cases h
def MY (W n k:Nat) (cs:List T) (i j:Int):Option (Nat × List T × Nat × List T):=match n with
 | 0=>none
 | _+1=>if 0≤i∧i≤j∧j≤(k:Int) then some (k - (j.toNat - i.toNat),cs.take (i.toNat * W)++cs.drop (j.toNat * W),k,cs) else none
noncomputable def MY.w {E:Av} (W:Nat) (el:List Pm) (hW:el.length=W) (h0:0<W) (hf:A8 0 el=true) (no:Nat) (h:E.fn no=some (.sem [.io,.val,.val] (ar W))):A7 E :=
 BL no [⟨.io,⟨false,[.sl .own el],[.lst 0 []]⟩⟩,Oz .i64,Oz .i64] Wx (.one ⟨[⟨false,[.sl .own el],[.lst 0 []]⟩],[some ⟨false,[.dead],[.lst 0 []]⟩,none,none]⟩ W5) (fun n v=>MY W n v.1 v.2.1 v.2.2.1 v.2.2.2) (by
 intro n v r hh
 obtain ⟨k,cs,i,j⟩:=v
 cases n with
 | zero=>simp[MY] at hh
 | succ n =>
   simp only[MY] at hh
   split at hh
   ·rename_i hc
    simp only[zS] at hh
    subst hh
    have:Ab E (n+1) no (Gg [⟨.io,⟨false,[.sl .own el],[.lst 0 []]⟩⟩,Oz .i64,Oz .i64] (Wx.pk (k,cs,i,j)))=ar W [⟨.io,⟨false,[.sl .own el],[.lst k cs]⟩⟩,⟨.val,⟨false,[.leaf],[.int .i64 i]⟩⟩,⟨.val,⟨false,[.leaf],[.int .i64 j]⟩⟩]:=by simp only[Ab,h];rfl
    rw[this]
    simp only[ar]
    rw[if_pos ⟨hW,h0,hf,hc⟩]
    rfl
   ·simp at hh)
def Rv:B4 (Nat × List T) where
 pk:=fun v=>[.lst v.1 v.2]
 up:=fun ls=>match ls with
  | [.lst a b]=>some (a,b)
  | _=>none
 ok:=by
  intro ls v h
  split at h
  ·cases h;rfl
  ·cases h
def KF (n k:Nat) (cs:List T):Option (Nat × List T):=match n with
 | 0=>none
 | _+1=>if k<4611686018427387904 then some (k,cs.reverse) else none
noncomputable def KF.w {E:Av} (no:Nat) (h:E.fn no=some (.sem [.io] bB)):A7 E :=
 BL no [⟨.io,⟨false,[.sl .own [.leaf]],[.lst 0 []]⟩⟩] Rv (.one ⟨[],[some ⟨false,[.sl .own [.leaf]],[.lst 0 []]⟩]⟩ Rv) (fun n v=>KF n v.1 v.2) (by
 intro n v r hh
 obtain ⟨k,cs⟩:=v
 cases n with
 | zero=>simp[KF] at hh
 | succ n =>
   simp only[KF] at hh
   split at hh
   ·rename_i hc
    simp only[zS] at hh
    subst hh
    have:Ab E (n+1) no (Gg [⟨.io,⟨false,[.sl .own [.leaf]],[.lst 0 []]⟩⟩] (Rv.pk (k,cs)))=bB [⟨.io,⟨false,[.sl .own [.leaf]],[.lst k cs]⟩⟩]:=by simp only[Ab,h];rfl
    rw[this]
    simp only[bB]
    rw[if_pos hc]
    rfl
   ·simp at hh)
def Zx:B4 (Nat × List T × Int) where
 pk:=fun v=>[.lst v.1 v.2.1,.int v.2.2]
 up:=fun ls=>match ls with
  | [.lst a b,.int c]=>some (a,b,c)
  | _=>none
 ok:=by
  intro ls v h
  split at h
  ·cases h;rfl
  ·cases h
def MS (W:Nat) (p:List T→Option Bool) (k:Nat) (cs:List T):Option (Nat × List T × Nat × List T) :=
 if k<4611686018427387904 then match NX W p k cs with
  | none=>none
  | some (m,ds)=>some (m,ds,k,cs)
 else none
def I7 (W n k:Nat) (cs:List T) (a:Int):Option (Nat × List T × Nat × List T):=match n with
 | 0=>none
 | _+1=>MS W (QH [.ref [.int .i64 a]]) k cs
def KM (W n k:Nat) (cs:List T):Option (Nat × List T × Nat × List T):=match n with
 | 0=>none
 | _+1=>MS W (T7 []) k cs
theorem Mh {fc k:Nat} {el ps:List Pm} {pr:List T→List T→Option Bool} {cs ts:List T} {r:Nat × List T × Nat × List T} (h0:0<el.length) (hf:A8 0 el=true) (he:pbeqs el el=true) (hq:pbeqs ps ps=true) (h:MS el.length (pr ts) k cs=some r) :
  Pp fc el ps pr [⟨.io,⟨false,[.sl .own el],[.lst k cs]⟩⟩,⟨.val,⟨false,[.fn ps],[.fn fc ts]⟩⟩]=some ⟨[⟨false,[.sl .own el],[.lst r.1 r.2.1]⟩],[some ⟨false,[.dead],[.lst r.2.2.1 r.2.2.2]⟩,none]⟩:=by
 unfold MS at h
 split at h
 ·rename_i hk
  split at h
  ·cases h
  ·rename_i m ds hr
   simp only[zS] at h
   subst h
   simp only[Pp,hr]
   rw[if_pos ⟨he,h0,hf,trivial,hq,hk⟩]
 ·cases h
noncomputable def I7.w {E:Av} (W fc:Nat) (el:List Pm) (hW:el.length=W) (h0:0<W) (hf:A8 0 el=true) (he:pbeqs el el=true) (no:Nat) (h:E.fn no=some (.sem [.io,.val] (Pp fc el [.rf .shr [.leaf]] QH))):A7 E :=
 BL no [⟨.io,⟨false,[.sl .own el],[.lst 0 []]⟩⟩,⟨.val,⟨false,[.fn [.rf .shr [.leaf]]],[.fn fc [.ref [.int .i64 0]]]⟩⟩] Zx (.one ⟨[⟨false,[.sl .own el],[.lst 0 []]⟩],[some ⟨false,[.dead],[.lst 0 []]⟩,none]⟩ W5) (fun n v=>I7 W n v.1 v.2.1 v.2.2) (by
 intro n v r hh
 obtain ⟨k,cs,a⟩:=v
 cases n with
 | zero=>simp[I7] at hh
 | succ n =>
   simp only[I7] at hh
   subst hW
   have:Ab E (n+1) no (Gg [⟨.io,⟨false,[.sl .own el],[.lst 0 []]⟩⟩,⟨.val,⟨false,[.fn [.rf .shr [.leaf]]],[.fn fc [.ref [.int .i64 0]]]⟩⟩] (Zx.pk (k,cs,a)))=Pp fc el [.rf .shr [.leaf]] QH [⟨.io,⟨false,[.sl .own el],[.lst k cs]⟩⟩,⟨.val,⟨false,[.fn [.rf .shr [.leaf]]],[.fn fc [.ref [.int .i64 a]]]⟩⟩]:=by simp only[Ab,h];rfl
   rw[this,Mh h0 hf he rfl hh]
   rfl)
noncomputable def KM.w {E:Av} (W fc:Nat) (el:List Pm) (hW:el.length=W) (h0:0<W) (hf:A8 0 el=true) (he:pbeqs el el=true) (no:Nat) (h:E.fn no=some (.sem [.io,.val] (Pp fc el [] T7))):A7 E :=
 BL no [⟨.io,⟨false,[.sl .own el],[.lst 0 []]⟩⟩,⟨.val,⟨false,[.fn []],[.fn fc []]⟩⟩] Rv (.one ⟨[⟨false,[.sl .own el],[.lst 0 []]⟩],[some ⟨false,[.dead],[.lst 0 []]⟩,none]⟩ W5) (fun n v=>KM W n v.1 v.2) (by
 intro n v r hh
 obtain ⟨k,cs⟩:=v
 cases n with
 | zero=>simp[KM] at hh
 | succ n =>
   simp only[KM] at hh
   subst hW
   have:Ab E (n+1) no (Gg [⟨.io,⟨false,[.sl .own el],[.lst 0 []]⟩⟩,⟨.val,⟨false,[.fn []],[.fn fc []]⟩⟩] (Rv.pk (k,cs)))=Pp fc el [] T7 [⟨.io,⟨false,[.sl .own el],[.lst k cs]⟩⟩,⟨.val,⟨false,[.fn []],[.fn fc []]⟩⟩]:=by simp only[Ab,h];rfl
   rw[this,Mh h0 hf he rfl hh]
   rfl)
def WG:B4 (Nat × List T × Int × Nat × List T) where
 pk:=fun v=>[.lst v.1 v.2.1,.int v.2.2.1,.lst v.2.2.2.1 v.2.2.2.2]
 up:=fun ls=>match ls with
  | [.lst a b,.int c,.lst d e]=>some (a,b,c,d,e)
  | _=>none
 ok:=by
  intro ls v h
  split at h
  ·cases h;rfl
  ·cases h
def bE:B4 (Nat × List T × Nat × List T × Nat × List T) where
 pk:=fun v=>[.lst v.1 v.2.1,.lst v.2.2.1 v.2.2.2.1,.lst v.2.2.2.2.1 v.2.2.2.2.2]
 up:=fun ls=>match ls with
  | [.lst a b,.lst c d,.lst e f]=>some (a,b,c,d,e,f)
  | _=>none
 ok:=by
  intro ls v h
  split at h
  ·cases h;rfl
  ·cases h
def FY (W n k:Nat) (cs:List T) (i:Int) (m:Nat) (ds:List T):Option (Nat × List T × Nat × List T × Nat × List T):=match n with
 | 0=>none
 | _+1=>if m=1∧0≤i∧i≤(k:Int)∧0<k∧k<1000000 then some (k+1,cs.take (i.toNat * W)++ds++cs.drop (i.toNat * W),k,cs,m,ds) else none
noncomputable def FY.w {E:Av} (W:Nat) (el:List Pm) (hW:el.length=W) (h0:0<W) (hf:A8 0 el=true) (he:pbeqs el el=true) (no:Nat) (h:E.fn no=some (.sem [.io,.val,.io] (Qr el))):A7 E :=
 BL no [⟨.io,⟨false,[.sl .own el],[.lst 0 []]⟩⟩,Oz .i64,⟨.io,⟨false,[.sl .own el],[.lst 0 []]⟩⟩] WG (.one ⟨[⟨false,[.sl .own el],[.lst 0 []]⟩],[some ⟨false,[.dead],[.lst 0 []]⟩,none,some ⟨false,[.dead],[.lst 0 []]⟩]⟩ bE) (fun n v=>FY W n v.1 v.2.1 v.2.2.1 v.2.2.2.1 v.2.2.2.2) (by
 intro n v r hh
 obtain ⟨k,cs,i,m,ds⟩:=v
 cases n with
 | zero=>simp[FY] at hh
 | succ n =>
   simp only[FY] at hh
   split at hh
   ·rename_i hc
    simp only[zS] at hh
    subst hh
    subst hW
    have:Ab E (n+1) no (Gg [⟨.io,⟨false,[.sl .own el],[.lst 0 []]⟩⟩,Oz .i64,⟨.io,⟨false,[.sl .own el],[.lst 0 []]⟩⟩] (WG.pk (k,cs,i,m,ds)))=Qr el [⟨.io,⟨false,[.sl .own el],[.lst k cs]⟩⟩,⟨.val,⟨false,[.leaf],[.int .i64 i]⟩⟩,⟨.io,⟨false,[.sl .own el],[.lst m ds]⟩⟩]:=by simp only[Ab,h];rfl
    rw[this]
    simp only[Qr]
    rw[if_pos ⟨he,he,h0,hf,hc⟩]
    rfl
   ·simp at hh)
inductive LR:List T→List Value→Prop
 | nil:LR [] []
 | cons {t ts x xs} (h:AJ t x) (r:LR ts xs):LR (t::ts) (x::xs)
theorem PE {w:World} {Fz:Nat→Prop} {as:List Aa} {xs:List Value} {mfp:Fp} (h:D4 w Fz as xs mfp) (hv:as.all F7=true):LR (as.flatMap fun a=>a.v.cs) xs:=by
 induction h with
 | nil=>exact .nil
 | @val v x vs as xs fs hc hR r ih =>
   simp only[all_cons,zB] at hv
   obtain ⟨h1,h2⟩:=hv
   obtain ⟨a,p,cs⟩:=v
   unfold F7 at h1
   split at h1
   ·rename_i t e
    simp only[Aa.mk.injEq,V.mk.injEq,true_and] at e
    obtain ⟨rfl,rfl,rfl⟩:=e
    have:=Aw hc
    subst this
    cases hR with
    | leaf hl _=>exact .cons hl (ih h2)
   ·simp at h1
 | io=>simp[F7] at hv
 | iop=>simp[F7] at hv
theorem UC {w:World} {Fz:Nat→Prop} {t:T} {x:Value} (h:AJ t x) (hc:AD false x [x]):∃ fr,QT w Fz noLt 0 ([((false,[.leaf],[t]):Bool × List Pm × List T)].map fun x=>⟨x.1,x.2.1,x.2.2⟩) x fr∧(fr.flatten.map Fe.b).Nodup∧∀ y∈fr.flatten,w.heap.size≤y.b:=by
 refine ⟨[[]],⟨[x],.cons hc (.leaf h .nil) .nil,rfl⟩,by simp,by simp⟩
section
variable {P:Program} {f:Nat} {fn:Func}
theorem Ks {g : List T → Option (List (Bool × List Pm × List T))} {e : Array Value → Sem Value} (hf : P.funcs[f]? = some fn) (hname : (fn.name == "runtime.NumGoroutine") = false) (hb : fn.body.isNone = true) (hn : Extern.findNext fn = none) (he : Extern.find fn = some e)
  (hg:∀ ts rs xs,g ts=some rs→LR ts xs→∃ t,rs=[(false,[.leaf],[t])]∧∀ w:World,∃ z w',(e xs.toArray).run P w = .ok z w'∧AJ t z∧AD false z [z]∧(w'=w∨w'=w.drew)):G5 P f g:=by
 refine ZG.ok ?_
 intro ts rs h w Fz as xs hA hv ht
 have hL:=PE hA hv
 rw[ht] at hL
 obtain ⟨t,rfl,hr⟩:=hg ts rs xs h hL
 obtain ⟨z,w',h1,h2,h3,h4⟩:=hr w
 obtain ⟨fr,k1,k2,k3⟩:=UC (w:=w') (Fz:=Fz) h2 h3
 refine ⟨z,w',?_,NB h4,fr,k1,k2,fun y hy => ?_⟩
 ·rw[run_callFunc_extern hf hname hb hn he,h1];rfl
 ·rcases h4 with rfl | rfl
  ·exact k3 y hy
  ·exact k3 y hy
theorem Ll (k:IntKind) (n:Int):AD false (.int k n) [.int k n]:=by simp[AD]
theorem Eh (k:FloatKind) (n:Nat):AD false (.float k n) [.float k n]:=by simp[AD]
variable (hf : P.funcs[f]? = some fn) (hname : (fn.name == "runtime.NumGoroutine") = false) (hb : fn.body.isNone = true) (hn : Extern.findNext fn = none)
include hf hname hb hn
theorem QA (he:Extern.find fn=some Extern.MathFloatBits.float32bits):G5 P f F1:=by
 refine Ks hf hname hb hn he fun ts rs xs h hL => ?_
 unfold F1 at h
 split at h
 ·rename_i x
  split at h
  ·simp at h
  ·rename_i hx
   cases h
   cases hL with
   | cons h1 r =>
     cases r
     obtain ⟨b,rfl,hb'⟩:=h1
     refine ⟨_,rfl,fun w=>⟨.int .u32 b,w,rfl,?_,Ll _ _,.inl rfl⟩⟩
     have:isNaN .f32 b=false:=by rw[← E8,hb'];simpa using hx
     rw[A3 this] at hb'
     subst hb';rfl
 ·simp at h
theorem Hj (he:Extern.find fn=some Extern.MathFloatBits.float64bits):G5 P f DH:=by
 refine Ks hf hname hb hn he fun ts rs xs h hL => ?_
 unfold DH at h
 split at h
 ·rename_i x
  split at h
  ·rename_i hx
   cases h
   cases hL with
   | cons h1 r =>
     cases r
     obtain ⟨b,rfl,hb'⟩:=h1
     exact ⟨_,rfl,fun w=>⟨.int .u64 b,w,rfl,⟨b,by rw[← E8,hb'];exact hx,rfl⟩,Ll _ _,.inl rfl⟩⟩
  ·rename_i hx
   cases h
   cases hL with
   | cons h1 r =>
     cases r
     obtain ⟨b,rfl,hb'⟩:=h1
     refine ⟨_,rfl,fun w=>⟨.int .u64 b,w,rfl,?_,Ll _ _,.inl rfl⟩⟩
     have:isNaN .f64 b=false:=by rw[← E8,hb'];simpa using hx
     rw[A3 this] at hb'
     subst hb';rfl
 ·simp at h
theorem Le (he:Extern.find fn=some Extern.MathFloatBits.float32frombits):G5 P f Ct:=by
 refine Ks hf hname hb hn he fun ts rs xs h hL => ?_
 unfold Ct at h
 split at h
 ·rename_i n
  split at h
  ·cases h
   cases hL with
   | cons h1 r =>
     cases r
     simp only[AJ] at h1
     subst h1
     exact ⟨_,rfl,fun w=>⟨.float .f32 n.toNat,w,rfl,⟨_,rfl,rfl⟩,Eh _ _,.inl rfl⟩⟩
  ·simp at h
 ·simp at h
theorem Ee (he:Extern.find fn=some Extern.MathFloatBits.float64frombits):G5 P f BR:=by
 refine Ks hf hname hb hn he fun ts rs xs h hL => ?_
 unfold BR at h
 split at h
 ·rename_i n
  split at h
  ·cases h
   cases hL with
   | cons h1 r =>
     cases r
     simp only[AJ] at h1
     subst h1
     exact ⟨_,rfl,fun w=>⟨.float .f64 n.toNat,w,rfl,⟨_,rfl,rfl⟩,Eh _ _,.inl rfl⟩⟩
  ·simp at h
 ·cases h
  cases hL with
  | cons h1 r =>
    cases r
    obtain ⟨b,hb',rfl⟩:=h1
    exact ⟨_,rfl,fun w=>⟨.float .f64 (b:Int).toNat,w,rfl,⟨_,rfl,by rw[zT];exact BU hb'⟩,Eh _ _,.inl rfl⟩⟩
 ·simp at h
end
theorem R3 {P:Program} {E:Av} {f:Nat} (hm:P.follows .mixedOrders=true) (hE:Cx P E) (hT:∀ f fd,E.fn f=some fd→Cb P E f fd)
  (n1:∀ x,isNaN .f64 x=false→x<18446744073709551616→∃ N,Ab E N f [⟨.val,⟨false,[.leaf],[.flt .f64 x]⟩⟩]=some ⟨[⟨false,[.leaf],[.flt .f64 (x % 9223372036854775808)]⟩],[none]⟩)
  (n2:∃ N,Ab E N f [⟨.val,⟨false,[.leaf],[.flt .f64 (EW .f64)]⟩⟩]=some ⟨[⟨false,[.leaf],[.flt .f64 (EW .f64)]⟩],[none]⟩):G5 P f Rk:=by
 intro as r h w Fz xs mfp hA hn hF
 have hh:=h
 simp only[Yx] at h
 split at h
 ·rename_i hv
  have hL:=PE hA hv
  generalize ht:(as.flatMap fun a=>a.v.cs)=ts at h hL
  split at h
  ·simp at h
  ·rename_i rs hrs
   unfold Rk at hrs
   split at hrs
   ·rename_i x
    split at hrs
    ·rename_i hx
     cases hrs
     have has:as=[⟨.val,⟨false,[.leaf],[.flt .f64 x]⟩⟩]:=by
      cases as with
      | nil=>simp at ht
      | cons a as =>
        simp only[all_cons,zB] at hv
        obtain ⟨h1,h2⟩:=hv
        unfold F7 at h1
        split at h1
        ·rename_i t
         simp only[flatMap_cons,cons_append,nil_append,List.cons.injEq] at ht
         obtain ⟨rfl,ht⟩:=ht
         cases as with
         | nil=>rfl
         | cons b bs =>
           simp only[all_cons,zB] at h2
           obtain ⟨h3,-⟩:=h2
           unfold F7 at h3
           split at h3
           ·simp at ht
           ·simp at h3
        ·simp at h1
     subst has
     cases hL with
     | cons h1 r =>
       obtain ⟨b,-,hb'⟩:=h1
       cases hN:isNaN .f64 x
       ·obtain ⟨N,e⟩:=n1 x hN hx
        have:=Ir hm hE hT N f _ _ e w Fz _ mfp hA hn hF
        rw[← Option.some.inj h]
        simpa [Me,hN] using this
       ·have hq:x=EW .f64:=by
         rw[← hb',E8] at hN
         rw[← hb',BU hN]
        subst hq
        obtain ⟨N,e⟩:=n2
        have:=Ir hm hE hT N f _ _ e w Fz _ mfp hA hn hF
        rw[← Option.some.inj h]
        simpa [Me,hN] using this
    ·simp at hrs
   ·simp at hrs
 ·simp at h
theorem Vz (n:Nat) {x:Nat} (h:isNaN .f64 x=false):(bd (BM (n+1) x) fun r2=>bd (Ao (n+1) (intBits BinOp.andNot IntKind.u64 r2 (9223372036854775808:Int))) fun r4=>some r4)=some (x % 9223372036854775808):=by
 have h2:isNaN .f64 (x % 9223372036854775808)=false:=by rw[Fs] at h ⊢;rw[Nat.mod_mod];exact h
 have e1:BM (n+1) x=some (x:Int):=by simp[BM,h]
 rw[e1]
 show bd (Ao (n+1) (intBits BinOp.andNot IntKind.u64 (x:Int) (9223372036854775808:Int))) (fun r4=>some r4)=_
 rw[Ji]
 have e2:Ao (n+1) ((x % 9223372036854775808:Nat):Int)=some (x % 9223372036854775808):=by
  show (if 0≤((x % 9223372036854775808:Nat):Int) then some (As .f64 ((x % 9223372036854775808:Nat):Int).toNat) else none)=_
  rw[if_pos (by omega),zT,A3 h2]
 rw[e2];rfl
theorem Sj (s:Bool) (t:Nat):isNaN .f64 (FloatKind.f64.encode (.nan s (FloatKind.f64.format.quiet t)))=true:=by
 have hb:FloatKind.f64.format.binade=2 ^ 52:=rfl
 have hi:FloatKind.f64.format.infRung=9218868437227405312:=rfl
 have hw:FloatKind.f64.format.signWeight=9223372036854775808:=rfl
 have hq:FloatKind.f64.format.quiet t % 2 ^ 52≠0:=by
  intro h
  have h1:(FloatKind.f64.format.quiet t % 2 ^ 52).testBit 51=true:=by
   show ((t ||| 2 ^ 51) % 2 ^ 52).testBit 51=true
   rw[Nat.testBit_mod_two_pow,Nat.testBit_or,Nat.testBit_two_pow]
   simp
  rw[h] at h1
  simp at h1
 have hlt:FloatKind.f64.format.quiet t % 2 ^ 52<2 ^ 52:=Nat.mod_lt _ (by decide)
 show isNaN .f64 (FloatKind.f64.format.word s (FloatKind.f64.format.infRung+FloatKind.f64.format.quiet t % FloatKind.f64.format.binade))=true
 rw[Fs,hb,hi]
 generalize FloatKind.f64.format.quiet t % 2 ^ 52=q at *
 unfold Ieee.Format.word
 rw[hw]
 have hlt:q<4503599627370496:=hlt
 split <;>simp <;>omega
section
variable {P:Program} {f:Nat} {fn:Func}
theorem Za {name : String} {way : Ieee.Toward} (hf : P.funcs[f]? = some fn) (hname : (fn.name == "runtime.NumGoroutine") = false) (hb : fn.body.isNone = true) (hn : Extern.findNext fn = none) (he : Extern.find fn = some (Extern.MathFloor.toIntegral name way)) : G5 P f (DQ way) := by
 refine Ks hf hname hb hn he fun ts rs xs h hL => ?_
 unfold DQ at h
 split at h
 ·rename_i x
  cases h
  cases hL with
  | cons h1 r =>
    cases r
    obtain ⟨b,rfl,hb'⟩:=h1
    refine ⟨_,rfl,fun w => ?_⟩
    have hxs:([Value.float .f64 b]:List Value).toArray = #[.float .f64 b]:=rfl
    rw[hxs]
    have hrun:Extern.MathFloor.toIntegral name way #[.float .f64 b]=(match FloatKind.f64.decode b with
     | .nan s t=>if FloatKind.f64.format.quiet t=t then pure (.float .f64 b) else do
       let kept ← choose (.extern "math.Floor,Ceil,Trunc,RoundToEven.signallingNaN kept" 2)
       pure (.float .f64 (if kept==1 then b else FloatKind.f64.encode (.nan s (FloatKind.f64.format.quiet t))))
     | d=>pure (.float .f64 (FloatKind.f64.encode (d.integral way)))):=rfl
    rw[hrun]
    have hnum:∀ d:Ieee.Datum,(∀ s t,d ≠ .nan s t)→As .f64 (FloatKind.f64.encode d)=FloatKind.f64.encode d:=fun d hd=>A3 (Ft hd)
    cases hd:FloatKind.f64.decode b with
    | nan s t =>
      have hN:isNaN .f64 b=true:=by unfold isNaN;rw[hd];rfl
      have hx:x=EW .f64:=by rw[← hb',BU hN]
      have hi:BV way (EW .f64)=EW .f64:=by cases way <;>decide
      subst hx
      rw[hi]
      by_cases hq:FloatKind.f64.format.quiet t=t
      ·simp only[if_pos hq]
       exact ⟨.float .f64 b,w,rfl,⟨b,rfl,BU hN⟩,Eh _ _,.inl rfl⟩
      ·simp only[if_neg hq]
       refine ⟨_,w.drew,rfl,⟨_,rfl,?_⟩,Eh _ _,.inr rfl⟩
       apply BU
       split
       ·exact hN
       ·exact Sj s t
    | infinity s =>
      have hN:isNaN .f64 b=false:=by unfold isNaN;rw[hd];rfl
      rw[A3 hN] at hb'
      subst hb'
      refine ⟨_,w,rfl,⟨_,rfl,?_⟩,Eh _ _,.inl rfl⟩
      have hi:BV way b=FloatKind.f64.encode ((Ieee.Datum.infinity s).integral way):=by unfold BV;rw[hd]
      rw[hi]
      exact hnum _ (fun s t h=>by cases h)
    | number s m e =>
      have hN:isNaN .f64 b=false:=by unfold isNaN;rw[hd];rfl
      rw[A3 hN] at hb'
      subst hb'
      refine ⟨_,w,rfl,⟨_,rfl,?_⟩,Eh _ _,.inl rfl⟩
      have hi:BV way b=FloatKind.f64.encode ((Ieee.Datum.number s m e).integral way):=by unfold BV;rw[hd]
      rw[hi]
      exact hnum _ (fun s t h=>by cases h)
 ·simp at h
theorem Jx (hf : P.funcs[f]? = some fn) (hname : (fn.name == "runtime.NumGoroutine") = false) (hb : fn.body.isNone = true) (hn : Extern.findNext fn = none) (he : Extern.find fn = some (Extern.MathFloor.toIntegral "math.archTrunc" .zero)) : G5 P f (DQ .zero) := Za hf hname hb hn he
end
theorem SB (b:Nat) (hb:b<18446744073709551616):b &&& 2 ^ 63=b / 9223372036854775808 * 9223372036854775808:=by
 apply Nat.eq_of_testBit_eq
 intro i
 rw[Nat.testBit_and,Nat.testBit_two_pow]
 rcases Nat.lt_or_ge b 9223372036854775808 with h | h
 ·rw[Nat.div_eq_of_lt h,Nat.zero_mul,Nat.zero_testBit]
  by_cases e:63=i
  ·subst e;rw[Nat.testBit_lt_two_pow (by simpa using h)];rfl
  ·simp[e]
 ·have:b / 9223372036854775808=1:=by omega
  rw[this,Nat.one_mul,show (9223372036854775808:Nat)=2 ^ 63 from rfl,Nat.testBit_two_pow]
  by_cases e:63=i
  ·subst e
   have:b.testBit 63=true:=by
    rw[Nat.testBit_eq_decide_div_mod_eq]
    have:b / 2 ^ 63 % 2=1:=by show b / 9223372036854775808 % 2=1;omega
    simp[this]
   simp[this]
  ·simp[e]
theorem ZI (b:Nat) (hb:b<18446744073709551616):intBits .and .u64 (b:Int) 9223372036854775808=((b / 9223372036854775808 * 9223372036854775808:Nat):Int):=by
 have h:(BitVec.ofInt 64 (b:Int) &&& (BitVec.ofInt 64 9223372036854775808)).toNat=b / 9223372036854775808 * 9223372036854775808:=by
  have e1:BitVec.ofInt 64 (b:Int)=BitVec.ofNat 64 b:=by
   apply BitVec.eq_of_toNat_eq
   simp
  have e2:(BitVec.ofInt 64 9223372036854775808)=BitVec.ofNat 64 (2 ^ 63):=by decide
  rw[e1,e2,BitVec.toNat_and,BitVec.toNat_ofNat,BitVec.toNat_ofNat,Nat.mod_eq_of_lt (show 2 ^ 63<2 ^ 64 by decide),Nat.mod_eq_of_lt (by simpa using hb),SB b hb]
 show IntKind.u64.wrap (((BitVec.ofInt 64 (b:Int) &&& (BitVec.ofInt 64 9223372036854775808)).toNat:Nat):Int)=_
 rw[h]
 rw[show ∀ n:Nat,IntKind.u64.wrap (n:Int)=(n:Int) % 18446744073709551616 by intro n;simp[IntKind.wrap,IntKind.bits,IntKind.signed]]
 omega
theorem aH (a s:Nat) (ha:a<9223372036854775808) (hs:s<2):intBits .or .u64 (a:Int) ((s * 9223372036854775808:Nat):Int)=((a+s * 9223372036854775808:Nat):Int):=by
 have h:(BitVec.ofInt 64 (a:Int) ||| (BitVec.ofInt 64 ((s * 9223372036854775808:Nat):Int))).toNat=a+s * 9223372036854775808:=by
  have e1:∀ b:Nat,BitVec.ofInt 64 (b:Int)=BitVec.ofNat 64 b:=by
   intro b
   apply BitVec.eq_of_toNat_eq
   simp
  rw[e1,e1,BitVec.toNat_or,BitVec.toNat_ofNat,BitVec.toNat_ofNat,Nat.mod_eq_of_lt (by omega),Nat.mod_eq_of_lt (by omega),Nat.or_comm,Nat.mul_comm s,Nat.add_comm a]
  exact (Nat.two_pow_add_eq_or_of_lt (i:=63) (by simpa using ha) s).symm
 show IntKind.u64.wrap (((BitVec.ofInt 64 (a:Int) ||| (BitVec.ofInt 64 ((s * 9223372036854775808:Nat):Int))).toNat:Nat):Int)=_
 rw[h]
 rw[show ∀ n:Nat,IntKind.u64.wrap (n:Int)=(n:Int) % 18446744073709551616 by intro n;simp[IntKind.wrap,IntKind.bits,IntKind.signed]]
 omega
theorem Nk (n:Nat) {x s:Nat} (hx:isNaN .f64 x=false) (hs:isNaN .f64 s=false) (hx':x<18446744073709551616) (hs':s<18446744073709551616) :
  (bd (BM (n+1) x) fun r2=>bd (BM (n+1) s) fun r4=>bd (Ao (n+1) (intBits BinOp.or IntKind.u64 (intBits BinOp.andNot IntKind.u64 r2 (9223372036854775808:Int)) (intBits BinOp.and IntKind.u64 r4 (9223372036854775808:Int)))) fun r6=>some r6)
    = some (x % 9223372036854775808+s / 9223372036854775808 * 9223372036854775808):=by
 have e1:BM (n+1) x=some (x:Int):=by simp[BM,hx]
 have e2:BM (n+1) s=some (s:Int):=by simp[BM,hs]
 rw[e1,e2]
 show bd (Ao (n+1) (intBits BinOp.or IntKind.u64 (intBits BinOp.andNot IntKind.u64 (x:Int) (9223372036854775808:Int)) (intBits BinOp.and IntKind.u64 (s:Int) (9223372036854775808:Int)))) (fun r6=>some r6)=_
 rw[Ji,ZI _ hs',aH _ _ (Nat.mod_lt _ (by decide)) (by omega)]
 have h2:isNaN .f64 (x % 9223372036854775808+s / 9223372036854775808 * 9223372036854775808)=false:=by
  rw[Fs] at hx ⊢
  rw[Nat.add_mul_mod_self_right,Nat.mod_mod];exact hx
 have e3:Ao (n+1) ((x % 9223372036854775808+s / 9223372036854775808 * 9223372036854775808:Nat):Int)=some (x % 9223372036854775808+s / 9223372036854775808 * 9223372036854775808):=by
  show (if 0≤((x % 9223372036854775808+s / 9223372036854775808 * 9223372036854775808:Nat):Int) then some (As .f64 ((x % 9223372036854775808+s / 9223372036854775808 * 9223372036854775808:Nat):Int).toNat) else none)=_
  rw[if_pos (by omega),zT,A3 h2]
 rw[e3];rfl
theorem LW {P:Program} {E:Av} {f:Nat} (hm:P.follows .mixedOrders=true) (hE:Cx P E) (hT:∀ f fd,E.fn f=some fd→Cb P E f fd)
  (n1:∀ x s,isNaN .f64 x=false→isNaN .f64 s=false→x<18446744073709551616→s<18446744073709551616→∃ N,Ab E N f [⟨.val,⟨false,[.leaf],[.flt .f64 x]⟩⟩,⟨.val,⟨false,[.leaf],[.flt .f64 s]⟩⟩]=some ⟨[⟨false,[.leaf],[.flt .f64 (x % 9223372036854775808+s / 9223372036854775808 * 9223372036854775808)]⟩],[none,none]⟩):G5 P f D1:=by
 intro as r h w Fz xs mfp hA hn hF
 have hh:=h
 simp only[Yx] at h
 split at h
 ·rename_i hv
  generalize ht:(as.flatMap fun a=>a.v.cs)=ts at h
  split at h
  ·simp at h
  ·rename_i rs hrs
   unfold D1 at hrs
   split at hrs
   ·rename_i x s
    split at hrs
    ·simp at hrs
    rename_i hs
    split at hrs
    ·simp at hrs
    rename_i hx
    split at hrs
    ·rename_i hb
     cases hrs
     have has:as=[⟨.val,⟨false,[.leaf],[.flt .f64 x]⟩⟩,⟨.val,⟨false,[.leaf],[.flt .f64 s]⟩⟩]:=by
      cases as with
      | nil=>simp at ht
      | cons a as =>
        simp only[all_cons,zB] at hv
        obtain ⟨h1,h2⟩:=hv
        unfold F7 at h1
        split at h1
        ·rename_i t
         simp only[flatMap_cons,cons_append,nil_append,List.cons.injEq] at ht
         obtain ⟨rfl,ht⟩:=ht
         cases as with
         | nil=>simp at ht
         | cons b bs =>
           simp only[all_cons,zB] at h2
           obtain ⟨h3,h4⟩:=h2
           unfold F7 at h3
           split at h3
           ·simp only[flatMap_cons,cons_append,nil_append,List.cons.injEq] at ht
            obtain ⟨rfl,ht⟩:=ht
            cases bs with
            | nil=>rfl
            | cons c cs =>
              simp only[all_cons,zB] at h4
              obtain ⟨h5,-⟩:=h4
              unfold F7 at h5
              split at h5
              ·simp at ht
              ·simp at h5
           ·simp at h3
        ·simp at h1
     subst has
     obtain ⟨N,e⟩:=n1 x s (by simpa using hx) (by simpa using hs) hb.1 hb.2
     have:=Ir hm hE hT N f _ _ e w Fz _ mfp hA hn hF
     rw[← Option.some.inj h]
     simpa using this
    ·simp at hrs
   ·simp at hrs
 ·simp at h
def AV (k:FloatKind) (xs:List Nat):List T:=xs.map (.flt k)
def its (k:IntKind) (xs:List Int):List T:=xs.map (.int k)
def Ue (k:FloatKind) (x:Nat):Prop:=As k x=x∧(Lit.float k x).wf=true
def IX (k:IntKind) (n:Int):Prop:=k.min≤n∧n≤k.max
section
variable {E:Av} {t:Nat} {d:TD} {ts:List T}
theorem WT.slc_inv {e:Nat} (h:WT E t ts) (hd:E.ty t=some d) (hk:d.kd = .slc e):∃ n cs,ts=[.lst n cs]∧n≤maxLen∧WTs E e n cs:=by
 cases h with
 | slc h' hk' hl hs =>
   rw[hd] at h';cases h'
   rw[hk] at hk';cases hk'
   exact ⟨_,_,rfl,hl,hs⟩
 | _ h' hk'=>rw[hd] at h';cases h';rw[hk] at hk';cases hk'
theorem WT.int_inv {k:IntKind} (h:WT E t ts) (hd:E.ty t=some d) (hk:d.kd = .int k):∃ n,ts=[.int k n]∧IX k n:=by
 cases h with
 | int h' hk' h1 h2 =>
   rw[hd] at h';cases h'
   rw[hk] at hk';cases hk'
   exact ⟨_,rfl,h1,h2⟩
 | _ h' hk'=>rw[hd] at h';cases h';rw[hk] at hk';cases hk'
theorem WTs.ints {e n:Nat} {cs:List T} {k:IntKind} (hd:E.ty e=some d) (hk:d.kd = .int k) (h:WTs E e n cs):∃ xs,cs=its k xs∧n=xs.length∧∀ x∈xs,IX k x:=by
 induction n generalizing cs with
 | zero=>cases h;exact ⟨[],rfl,rfl,by simp⟩
 | succ n ih =>
   cases h with
   | snoc h hc =>
     obtain ⟨xs,rfl,rfl,hx⟩:=ih h
     obtain ⟨x,rfl,hg⟩:=hc.int_inv hd hk
     refine ⟨xs++[x],by simp[its],by simp,fun y hy => ?_⟩
     simp only[mem_append,mem_singleton] at hy
     rcases hy with hy | rfl
     ·exact hx y hy
     ·exact hg
end
theorem EE.cons_inv {E:Av} {t:Nat} {tys:List Nat} {as:List Aa} {d:TD} (hd:E.ty t=some d) (h:EE E (t::tys) as):∃ ts r,as=⟨.val,⟨d.agg,shares d.own,ts⟩⟩::r∧WT E t ts∧EE E tys r:=by
 cases h with
 | cons hd' hw r =>
   rw[hd] at hd';cases hd'
   exact ⟨_,_,rfl,hw,r⟩
theorem EE.nil_inv {E:Av} {as:List Aa} (h:EE E [] as):as=[]:=by cases h;rfl
theorem TW (k xs):(AV k xs).length=xs.length:=by simp[AV]
theorem B9 {k:FloatKind} {xs:List Nat} {i:Nat} (h:i<xs.length):AR [.flt k] (AV k xs) i=true:=by
 simp[AR,AV,h,Ml]
theorem M2 {k:IntKind} {xs:List Int} {i:Nat} (h:i<xs.length):AR [.int k] (its k xs) i=true:=by
 simp[AR,its,h,Ml]
theorem Em {k:FloatKind} {xs:List Nat} {i:Nat}:CY (AV k xs) i=xs.getD i 0:=by
 simp only[CY,AV,List.getElem?_map,List.getD]
 cases xs[i]? <;>rfl
theorem P9 {k:IntKind} {xs:List Int} {i:Nat}:FA (its k xs) i=xs.getD i 0:=by
 simp only[FA,its,List.getElem?_map,List.getD]
 cases xs[i]? <;>rfl
theorem Ss (cs:List T) (i:Nat) (t:T):AF cs i [t]=cs.set i t:=rfl
theorem XH (n:Nat) (t:T):reps n [t]=List.replicate n t:=by
 induction n with
 | zero=>rfl
 | succ n ih=>rw[PP,ih];rfl
theorem XC (k:FloatKind) (n:Nat):reps n [.flt k 0]=AV k (List.replicate n 0):=by
 rw[XH];simp[AV]
theorem A6 {x:Int} (h1 : -9223372036854775808≤x) (h2:x≤9223372036854775807):IntKind.i64.wrap x=x:=by
 rw[IntKind.wrap_i64];omega
theorem Ar {i:Nat} (h:i<9223372036854775807):IntKind.i64.wrap ((i:Int)+1)=((i+1:Nat):Int):=by
 rw[A6] <;>omega
theorem CQ {i n:Nat} (h:i<n):decide ((i:Int)<(n:Int))=true:=by simp;omega
theorem Bi {i n:Nat} (h:n≤i):decide ((i:Int)<(n:Int))=false:=by simp;omega
theorem BX {i n:Nat} (h:i<n):decide ((0:Int)≤(i:Int)∧(i:Int)<(n:Int))=true:=by simp;omega
theorem Q1 (k:FloatKind) (x y:Nat):Uj k x y = !RQ k x y:=rfl
theorem Dg {x:Nat} {s:Bool} {m:Nat} {e:Int} (h:Ieee.single.read x = .number s m e):m<16777216 ∧ -149≤e∧e≤104:=by
 have hb:Ieee.single.binade=8388608:=rfl
 have hp:Ieee.single.leastPlace = -149:=by decide
 unfold Ieee.Format.read at h
 by_cases c1:x % Ieee.single.signWeight<Ieee.single.binade
 ·simp only[if_pos c1] at h
  cases h
  rw[hb] at c1
  refine ⟨by omega,?_,?_⟩ <;>rw[hp] <;>omega
 ·by_cases c2:x % Ieee.single.signWeight<Ieee.single.infRung
  ·simp only[if_neg c1,if_pos c2] at h
   cases h
   rw[hb,hp]
   rw[NS] at c2
   rw[O4] at c2 ⊢
   refine ⟨by omega,by omega,?_⟩
   omega
  ·by_cases c3:x % Ieee.single.signWeight=Ieee.single.infRung
   ·simp only[if_neg c1,if_neg c2,if_pos c3] at h;cases h
   ·simp only[if_neg c1,if_neg c2,if_neg c3] at h;cases h
theorem Uf {f:Ieee.Format} {s:Bool} {r:Nat} (h:r<f.infRung) (hw:f.infRung<f.signWeight):((f.read (f.word s r)).isInfinity)=false:=by
 have hr:f.word s r % f.signWeight=r:=by
  unfold Ieee.Format.word
  split
  ·rw[Nat.add_mod_left,Nat.mod_eq_of_lt (by omega)]
  ·rw[Nat.mod_eq_of_lt (by omega)]
 simp only[Ieee.Format.read,hr]
 split
 ·rfl
 ·simp only[Ieee.Datum.isInfinity]
theorem Vl {s:Bool} {m:Nat} {e:Int} (hm:m<16777216) (h1 : -149≤e) (h2:e≤104):(Ieee.double.read (Ieee.double.nearest s m e)).isInfinity=false:=by
 have hb:Ieee.double.binade=4503599627370496:=rfl
 have hp:Ieee.double.leastPlace = -1074:=by decide
 have hf:(Ieee.double.fractionBits:Int)=52:=rfl
 unfold Ieee.Format.nearest
 split
 ·exact Uf (by rw[EV];decide) (by rw[EV,JG];decide)
 ·rename_i hz
  have hl:m.log2≤23:=by
   have:m.log2<24:=(Nat.log2_lt hz).2 (by omega)
   omega
  have hmax:max (e+(m.log2:Int) - 52) (-1074)=e+(m.log2:Int) - 52:=by omega
  simp only[hf,hp,hmax]
  have e1:(e - (e+(m.log2:Int) - 52)).toNat=52 - m.log2:=by omega
  have e2:(e+(m.log2:Int) - 52 - e).toNat=0:=by omega
  rw[e1,e2]
  have hcut:∀ n,Ieee.Toward.cut .even s n 0=n:=by
   intro n
   simp only[Ieee.Toward.cut,Nat.zero_le,Nat.min_eq_left,Nat.shiftLeft_zero,Nat.div_one,Nat.mod_one]
   rfl
  rw[hcut]
  have hk:m <<< (52 - m.log2)<9007199254740992:=by
   rw[Nat.shiftLeft_eq]
   have h3:m<2 ^ (m.log2+1):=Nat.lt_log2_self
   have h4:(2:Nat) ^ (m.log2+1) * 2 ^ (52 - m.log2)=2 ^ 53:=by
    rw[← Nat.pow_add];congr 1;omega
   calc m * 2 ^ (52 - m.log2)<2 ^ (m.log2+1) * 2 ^ (52 - m.log2):=Nat.mul_lt_mul_of_pos_right h3 (Nat.pow_pos (by decide))
    _=9007199254740992:=by rw[h4]
  have ht:(e+(m.log2:Int) - 52 - -1074).toNat≤1149:=by omega
  have hlt:(e+(m.log2:Int) - 52 - -1074).toNat * Ieee.double.binade+m <<< (52 - m.log2)<Ieee.double.infRung:=by
   rw[hb,EV]
   omega
  rw[Nat.min_eq_left (Nat.le_of_lt hlt)]
  exact Uf hlt (by rw[EV,JG];decide)
def B7 (x:Nat):Nat:=match Aj .f32 x .f64 with
 | some y=>y
 | none=>0
theorem CP (x:Nat):Aj .f32 x .f64=some (B7 x):=by
 unfold B7
 have:∃ y,Aj .f32 x .f64=some y:=by
  unfold Aj
  rw[if_neg (by decide)]
  cases h:FloatKind.f32.decode x with
  | nan s t=>exact ⟨_,rfl⟩
  | infinity s=>exact ⟨_,rfl⟩
  | number s m e =>
    obtain ⟨h1,h2,h3⟩:=Dg (x:=x) h
    have:=Vl (s:=s) h1 h2 h3
    refine ⟨FloatKind.f64.encode (.number s m e),?_⟩
    show (if (FloatKind.f64.decode (FloatKind.f64.encode (.number s m e))).isInfinity=true then none else some _)=some _
    have h4:(FloatKind.f64.decode (FloatKind.f64.encode (.number s m e))).isInfinity=false:=this
    rw[h4];rfl
 obtain ⟨y,hy⟩:=this
 rw[hy]
theorem WR {k:FloatKind} {x:Nat} (h:isNaN k x=false):RQ k x x=true:=by
 unfold RQ Ieee.Format.order
 unfold isNaN FloatKind.decode at h
 cases hr:k.format.read x with
 | nan s t=>rw[hr] at h;cases h
 | infinity s=>simp[Ieee.Datum.order]
 | number s m e=>simp[Ieee.Datum.order]
theorem Qt {a b:Nat} (h:a≤b):Nat.ble a b=true:=by rw[Nat.ble_eq];exact h
structure gf (P:Program) (f:Nat) (W:Nat):Prop where
 enter:∀ xs w,(callFunc f xs).run P w = .ok (.enter f xs) w
 same:∀ (w:World) (a:Option Addr) (n cap i:Nat),n≤cap→i≤n→(a=none→n=0∧cap=0)→(∀ x,a=some x→x.spot=none) →
  Calls P f #[.slice a n cap,.int .i64 i,.int .i64 i] w fun e w'=>e = .returned (.slice a n cap)∧w'=w
 move:∀ (w:World) (b off n cap i j:Nat) (vs:List Value),vs.length=n * W→(∀ t u,vs[t]?=some u→w.cell? ⟨b,off+t,none⟩=some u)→(∀ t,t<vs.length→w.frozen? ⟨b,off+t,none⟩=false) →
  (∀ u∈vs,u.oneCell'=true)→n≤cap→i<j→j≤n→∃ zs:List Value,zs.length=(j - i) * W ∧
  Calls P f #[.slice (some ⟨b,off,none⟩) n cap,.int .i64 i,.int .i64 j] w fun e w'=>e = .returned (.slice (some ⟨b,off,none⟩) (n - (j - i)) cap)∧w'=EY (EY w.drew b (off+i * W) (vs.drop (j * W))) b (off+(i+(n - j)) * W) zs
theorem LD (w:World) (W:Nat→Nat→Prop):Ay w w.drew W:=⟨rfl,rfl,rfl,Nat.le_refl _,fun _ row _ fr h=>⟨row,fr,h,rfl,fun _ _=>rfl,.inl rfl⟩,fun _ _ h _=>h⟩
theorem R.int_one {w:World} {Fz:Nat→Prop} {Lt:Nat→Nat→Prop} {g:Nat} {k:IntKind} {i:Int} {vs:List Value} {f:Fp} (h:R w Fz Lt g [.leaf] [.int k i] vs f):vs=[.int k i]∧f=[]:=by
 cases h with
 | leaf hl hr =>
   cases hr with
   | nil=>exact ⟨by rw[show _=_ from hl],rfl⟩
structure gq (P:Program) (f:Nat):Prop where
 enter:∀ xs w,(callFunc f xs).run P w = .ok (.enter f xs) w
 none:∀ (w:World) (a:Option Addr) (cap:Nat),Calls P f #[.slice a 0 cap] w fun e w'=>e = .returned (.tuple #[])∧w'=w
 turn:∀ (w:World) (b off n cap:Nat) (vs:List Value),vs.length=n→(∀ t u,vs[t]?=some u→w.cell? ⟨b,off+t,.none⟩=some u)→(∀ t,t<vs.length→w.frozen? ⟨b,off+t,.none⟩=false) →
  (∀ u∈vs,u.oneCell'=true)→n<4611686018427387904 →
  Calls P f #[.slice (some ⟨b,off,.none⟩) n cap] w fun e w'=>e = .returned (.tuple #[])∧∃ q,w'=EY { w with drawn:=w.drawn+q } b off vs.reverse
def K5 {α:Type} (W:Nat):List Bool→List α→List α
 | [],_=>[]
 | true::bs,xs=>K5 W bs (xs.drop W)
 | false::bs,xs=>xs.take W++K5 W bs (xs.drop W)
def PM:List Bool→Nat
 | []=>0
 | true::bs=>PM bs
 | false::bs=>PM bs+1
theorem R.keep {w:World} {Fz:Nat→Prop} {Lt:Nat→Nat→Prop} {g:Nat} {el:List Pm}:∀ {bs:List Bool} {cs:List T} {vs:List Value} {f:Fp},R w Fz Lt g (rep bs.length el) cs vs f →
  ∃ f',List.Sublist f' f∧R w Fz Lt g (rep (PM bs) el) (K5 el.length bs cs) (K5 el.length bs vs) f'
 | [],_,_,_,h=>by cases h;exact ⟨[],List.Sublist.refl _,.nil⟩
 | b::bs,cs,vs,f,h=>by
   rw[length_cons,Cy] at h
   obtain ⟨c1,c2,v1,v2,f1,f2,rfl,rfl,rfl,h1,h2⟩:=h.split
   obtain ⟨f',s,k⟩:=h2.keep (bs:=bs)
   have l1:=h1.length_eq
   cases b
   ·refine ⟨f1++f',List.Sublist.append (List.Sublist.refl _) s,?_⟩
    show R w Fz Lt g (rep (PM bs+1) el) ((c1++c2).take el.length++K5 el.length bs ((c1++c2).drop el.length)) ((v1++v2).take el.length++K5 el.length bs ((v1++v2).drop el.length)) _
    rw[take_left' l1.1,drop_left' l1.1,take_left' l1.2,drop_left' l1.2,Cy]
    exact h1.append k
   ·refine ⟨f',s.trans (List.sublist_append_right _ _),?_⟩
    show R w Fz Lt g (rep (PM bs) el) (K5 el.length bs ((c1++c2).drop el.length)) (K5 el.length bs ((v1++v2).drop el.length)) _
    rw[drop_left' l1.1,drop_left' l1.2]
    exact k
theorem R.rowAt {w:World} {Fz:Nat→Prop} {Lt:Nat→Nat→Prop} {g n i:Nat} {el:List Pm} {cs:List T} {vs:List Value} {f:Fp} (h:R w Fz Lt g (rep n el) cs vs f) (hi:i<n) :
  ∃ f',List.Sublist f' f∧R w Fz Lt g el ((cs.drop (i * el.length)).take el.length) ((vs.drop (i * el.length)).take el.length) f' :=by
 rw[show n=i+(1+(n - i - 1)) by omega,En,En,CX] at h
 obtain ⟨c1,c23,v1,v23,f1,f23,rfl,rfl,rfl,h1,h23⟩:=h.split
 obtain ⟨c2,c3,v2,v3,f2,f3,rfl,rfl,rfl,h2,h3⟩:=h23.split
 have l1:=h1.length_eq
 have l2:=h2.length_eq
 rw[Be] at l1
 refine ⟨f2,(List.sublist_append_left _ _).trans (List.sublist_append_right _ _),?_⟩
 rw[drop_left' l1.1,drop_left' l1.2,take_left' l2.1,take_left' l2.2]
 exact h2
structure et (P:Program) (f W fc:Nat):Prop where
 enter:∀ xs w,(callFunc f xs).run P w = .ok (.enter f xs) w
 none:∀ (w:World) (fv:Value),Calls P f #[.slice .none 0 0,fv] w fun e w'=>e = .returned (.slice .none 0 0)∧Ay w w' (fun _ _=>False)
 run:∀ (w:World) (b off n cap:Nat) (vs:List Value) (caps:Array Value) (bs:List Bool),vs.length=n * W→bs.length=n→(∀ t u,vs[t]?=some u→w.cell? ⟨b,off+t,.none⟩=some u)→(∀ t,t<vs.length→w.frozen? ⟨b,off+t,.none⟩=false) →
  (∀ u∈vs,u.oneCell'=true)→n≤cap→n<4611686018427387904 →
  (∀ i c w',bs[i]?=some c→Ay w w' (fun b' t=>b'=b∧off≤t∧t<off+n * W)→Calls P fc (#[.agg ((vs.drop (i * W)).take W).toArray]++caps) w' fun e w''=>e = .returned (.bool c)∧Ay w' w'' (fun _ _=>False)) →
  Calls P f #[.slice (some ⟨b,off,.none⟩) n cap,.func (.func fc) #[] caps] w fun e w'=>e = .returned (.slice (some ⟨b,off,.none⟩) (PM bs) cap)∧Ay w w' (fun b' t=>b'=b∧off≤t∧t<off+n * W) ∧
   ∀ t u,(K5 W bs vs)[t]?=some u→w'.cell? ⟨b,off+t,.none⟩=some u
theorem R.insert {w:World} {Fz:Nat→Prop} {Lt:Nat→Nat→Prop} {g n i:Nat} {el:List Pm} {cs ds:List T} {vs us:List Value} {f k:Fp} (h:R w Fz Lt g (rep n el) cs vs f) (h2:R w Fz Lt g (rep 1 el) ds us k) (hi:i≤n) :
  ∃ f',f'.Perm (f++k)∧R w Fz Lt g (rep (n+1) el) (cs.take (i * el.length)++ds++cs.drop (i * el.length)) (vs.take (i * el.length)++us++vs.drop (i * el.length)) f' :=by
 rw[show n=i+(n - i) by omega,En] at h
 obtain ⟨c1,c2,v1,v2,f1,f2,rfl,rfl,rfl,h1,h3⟩:=h.split
 have l1:=h1.length_eq
 rw[Be] at l1
 refine ⟨f1++k++f2,?_,?_⟩
 ·rw[append_assoc,append_assoc]
  exact List.Perm.append_left _ perm_append_comm
 ·rw[take_left' l1.1,take_left' l1.2,drop_left' l1.1,drop_left' l1.2,show n+1=(i+1)+(n - i) by omega,En,En]
  exact (h1.append h2).append h3
structure T0 (P:Program) (f:Nat) (W:Nat):Prop where
 enter:∀ xs w,(callFunc f xs).run P w = .ok (.enter f xs) w
 run:∀ (w:World) (b off n cap i vb voff vc:Nat) (vs us:List Value) (row vrow:Array Value) (e ve:TypeId) (fr vfr:Nat × Nat),
  w.heap[b]?=some (.cells row e fr)→w.heap[vb]?=some (.cells vrow ve vfr)→vb≠b→off+cap * W≤row.size→voff+W≤vrow.size →
  seg row off (n * W)=vs→seg vrow voff W=us→(∀ u∈vs,u.oneCell'=true)→(∀ u∈us,u.oneCell'=true) →
  (∀ j,off≤j→¬ (fr.1≤j∧j<fr.2))→(∀ j,voff≤j→¬ (vfr.1≤j∧j<vfr.2)) →
  0<n→n≤cap→i≤n→n<1000000→1≤vc →
  Calls P f #[.slice (some ⟨b,off,none⟩) n cap,.int .i64 i,.slice (some ⟨vb,voff,none⟩) 1 vc] w fun x w'=>∃ b' off' cap',x = .returned (.slice (some ⟨b',off',none⟩) (n+1) cap')∧n+1≤cap' ∧
   ∃ row' e' fr',w'.heap[b']?=some (.cells row' e' fr')∧off'+cap' * W≤row'.size∧seg row' off' ((n+1) * W)=vs.take (i * W)++us++vs.drop (i * W)∧(∀ j,off'≤j→¬ (fr'.1≤j∧j<fr'.2)) ∧
    ((b'=b∧off'=off∧cap'=cap∧Ay w w' (fun b1 t=>b1=b∧off≤t∧t<off+cap * W))∨(w.heap.size≤b'∧Ay w w' (fun _ _=>False)))
end Go.Desk
end
