/- FnExactSplitClip holds: for every input the law returns true, and its arguments read as before. -/
import Derived.Test.YtdobhipbgpiceaaM10b
set_option linter.all false
set_option linter.unusedVariables false
open List (all_cons all_eq_true any_eq_false any_eq_true append_assoc append_nil cons_append count_append drop_drop drop_eq_getElem_cons drop_eq_nil_of_le drop_left' drop_zero flatMap_append flatMap_cons flatMap_def flatten_cons flatten_nil foldl_cons length_append length_cons length_drop length_eq_one_iff length_eq_zero_iff length_set length_singleton length_take mapM_cons map_append map_congr_left map_cons map_nil mem_append mem_append_left mem_append_right mem_cons mem_cons_of_mem mem_cons_self mem_flatten mem_map mem_singleton nil_append nodup_append nodup_cons perm_append_comm perm_iff_count perm_middle replicate_succ take_append_drop take_left' take_length take_of_length_le take_succ_cons take_zero)
section
namespace Go.Desk
open Go
def DM (σ:AS) (st:D9):AS:=⟨At st.ups σ.env,st.g.getD σ.g⟩
def DO (σ0:AS) (sts:List D9) (S:Nat→Bool):Nat→AS
 | 0=>σ0
 | n+1=>match sts[n]? with
   | some st=>if S n then DM (DO σ0 sts S n) st else DO σ0 sts S n
   | none=>DO σ0 sts S n
theorem Cy {σ0:AS} {sts:List D9} {S:Nat→Bool} {n:Nat} {st:D9} (h:sts[n]?=some st):DO σ0 sts S (n+1)=if S n then DM (DO σ0 sts S n) st else DO σ0 sts S n:=by
 simp only[DO,h]
theorem O8 (σ:AS) (st:D9) (sts:List D9) (i:Nat):DO σ (st::sts) (fun _=>true) (i+1)=DO (DM σ st) sts (fun _=>true) i:=by
 induction i with
 | zero=>simp[DO]
 | succ i ih =>
   rw[DO,ih]
   simp only[List.getElem?_cons_succ]
   rw[DO]
   cases sts[i]? <;>simp
theorem IY {E:Aj} {callF:Nat→List Ae→Option C8} {ops:Array Oper}:∀ {l:List Oper} {σ σ':AS} {fs:List (List Nat × List Nat)},G6 E callF ops l σ=some (σ',fs) →
  ∃ sts:List D9,fs=sts.map (fun st=>(st.foot,st.writes))∧sts.length=l.length∧(∀ (i:Nat) o,l[i]?=some o→∃ st,sts[i]?=some st∧Cf E callF ops o (DO σ sts (fun _=>true) i)=some st)∧σ'=DO σ sts (fun _=>true) l.length
 | [],σ,σ',fs,h=>by
   simp only[G6,zS,zP] at h
   obtain ⟨rfl,rfl⟩:=h
   exact ⟨[],rfl,rfl,by simp,rfl⟩
 | o::l,σ,σ',fs,h=>by
   simp only[G6] at h
   split at h
   ·simp at h
   rename_i st hst
   split at h
   ·simp at h
   rename_i σ1 fs1 h1
   simp only[zS,zP] at h
   obtain ⟨rfl,rfl⟩:=h
   obtain ⟨sts,rfl,hl,hs,rfl⟩:=IY h1
   refine ⟨st::sts,rfl,by simp[hl],fun i o' ho' => ?_,?_⟩
   ·cases i with
    | zero =>
      simp only[List.getElem?_cons_zero,zS] at ho'
      subst ho'
      exact ⟨st,rfl,hst⟩
    | succ i =>
      obtain ⟨st',k1,k2⟩:=hs i o' (by simpa using ho')
      exact ⟨st',by simpa using k1,by rw[O8];exact k2⟩
   ·simp only[length_cons]
    rw[O8];rfl
theorem Fc (σ:AS) (st:D9) (k:Nat):AG (DM σ st).env k=(L1 st.ups k).getD (AG σ.env k):=I1 _ _ _
theorem B8 {σ0:AS} {sts:List D9} {S S':Nat→Bool} {k:Nat}:∀ {N:Nat},(∀ n st,n<N→sts[n]?=some st→k∈st.ups.map (·.1)→S n=S' n)→AG (DO σ0 sts S N).env k=AG (DO σ0 sts S' N).env k
 | 0,_=>rfl
 | N+1,h=>by
   have ih:=B8 (σ0:=σ0) (N:=N) fun n st hn=>h n st (by omega)
   cases hs:sts[N]? with
   | none=>simp only[DO,hs];exact ih
   | some st =>
     rw[Cy hs,Cy hs]
     by_cases hk:k∈st.ups.map (·.1)
     ·rw[h N st (by omega) hs hk]
      cases S' N
      ·simpa using ih
      ·simp only[if_true,Fc,ih]
     ·have hu:=Fg hk
      cases S N <;>cases S' N <;>simp[Fc,hu,ih]
theorem Ey {σ0:AS} {sts:List D9} {S S':Nat→Bool}:∀ {N:Nat},(∀ n st,n<N→sts[n]?=some st→st.g.isSome=true→S n=S' n)→(DO σ0 sts S N).g=(DO σ0 sts S' N).g
 | 0,_=>rfl
 | N+1,h=>by
   have ih:=Ey (σ0:=σ0) (N:=N) fun n st hn=>h n st (by omega)
   cases hs:sts[N]? with
   | none=>simp only[DO,hs];exact ih
   | some st =>
     rw[Cy hs,Cy hs]
     cases hg:st.g with
     | some g =>
       rw[h N st (by omega) hs (by simp[hg])]
       cases S' N
       ·simpa using ih
       ·simp[DM,hg]
     | none=>cases S N <;>cases S' N <;>simp[DM,hg,ih]
theorem Ph {σ0:AS} {sts:List D9} {S:Nat→Bool} {k i:Nat} {st:D9} (hi:sts[i]?=some st) (hS:S i=false) {N:Nat} (hN:i<N) (h:∀ n st',i<n→n<N→sts[n]?=some st'→k∈st'.ups.map (·.1)→k∈st.ups.map (·.1)→S n=false) :
  AG (DO σ0 sts (fun n=>n==i||S n) N).env k=(L1 st.ups k).getD (AG (DO σ0 sts S N).env k):=by
 by_cases hk:k∈st.ups.map (·.1)
 ·obtain ⟨s,hs⟩:∃ s,L1 st.ups k=some s:=by
   cases hu:L1 st.ups k with
   | some s=>exact ⟨s,rfl⟩
   | none =>
     exfalso
     have:∀ us:List (Nat × AA),k∈us.map (·.1)→L1 us k≠none:=by
      intro us
      induction us with
      | nil=>simp
      | cons u us ih =>
        obtain ⟨j,t⟩:=u
        intro hm
        simp only[L1]
        split
        ·simp
        ·rename_i hn
         split
         ·simp
         ·rename_i hj
          simp only[map_cons,mem_cons] at hm
          rcases hm with rfl | hm
          ·exact absurd rfl hj
          ·exact absurd hn (ih hm)
     exact this _ hk hu
  have key:∀ d,i+1+d≤N→AG (DO σ0 sts (fun n=>n==i||S n) (i+1+d)).env k=s:=by
   intro d
   induction d with
   | zero=>intro _;rw[Nat.add_zero,Cy hi];simp[Fc,hs]
   | succ d ih =>
     intro hd
     have ih:=ih (by omega)
     rw[← Nat.add_assoc]
     cases hst:sts[i+1+d]? with
     | none=>simp only[DO,hst];exact ih
     | some st' =>
       rw[Cy hst]
       by_cases hk':k∈st'.ups.map (·.1)
       ·have:=h (i+1+d) st' (by omega) (by omega) hst hk' hk
        have hne:(i+1+d==i)=false:=by simp;omega
        simp only[this,hne,Bool.or_self,Bool.false_eq_true,if_false];exact ih
       ·split
        ·rw[Fc,Fg hk'];exact ih
        ·exact ih
  have:=key (N - (i+1)) (by omega)
  rw[show i+1+(N - (i+1))=N by omega] at this
  rw[this,hs];rfl
 ·rw[Fg hk]
  refine B8 fun n st' _ hn hk' => ?_
  by_cases e:n=i
  ·subst e
   rw[hi] at hn
   exact absurd (Option.some.inj hn ▸ hk') hk
  ·simp[e]
theorem RG {σ0:AS} {sts:List D9} {S:Nat→Bool} {i:Nat} {st:D9} (hi:sts[i]?=some st) (hS:S i=false) {N:Nat} (hN:i<N) (h:∀ n st',i<n→n<N→sts[n]?=some st'→st'.g.isSome=true→st.g.isSome=true→S n=false) :
  (DO σ0 sts (fun n=>n==i||S n) N).g=st.g.getD (DO σ0 sts S N).g:=by
 cases hg:st.g with
 | some g =>
   have key:∀ d,i+1+d≤N→(DO σ0 sts (fun n=>n==i||S n) (i+1+d)).g=g:=by
    intro d
    induction d with
    | zero=>intro _;rw[Nat.add_zero,Cy hi];simp[DM,hg]
    | succ d ih =>
      intro hd
      have ih:=ih (by omega)
      rw[← Nat.add_assoc]
      cases hst:sts[i+1+d]? with
      | none=>simp only[DO,hst];exact ih
      | some st' =>
        rw[Cy hst]
        cases hg':st'.g with
        | some g' =>
          have:=h (i+1+d) st' (by omega) (by omega) hst (by simp[hg']) (by simp[hg])
          have hne:(i+1+d==i)=false:=by simp;omega
          simp only[this,hne,Bool.or_self,Bool.false_eq_true,if_false];exact ih
        | none =>
          split
          ·simp only[DM,hg',Option.getD_none];exact ih
          ·exact ih
   have:=key (N - (i+1)) (by omega)
   rw[show i+1+(N - (i+1))=N by omega] at this
   rw[this];rfl
 | none =>
   simp only[Option.getD_none]
   refine Ey fun n st' _ hn hk' => ?_
   by_cases e:n=i
   ·subst e
    rw[hi] at hn
    obtain rfl:=Option.some.inj hn
    simp[hg] at hk'
   ·simp[e]
theorem LW {env:List (Nat × AA)} {k:Nat}:∀ {us:List (Nat × AA)},C7 k ∉ Ll env us→∀ s,L1 us k=some s→s.skel=(AG env k).skel
 | [],_,s,hs=>by simp[L1] at hs
 | (j,t)::us,hn,s,hs=>by
   simp only[Ll] at hn
   have ht:C7 k ∉ Ll env us:=fun hm=>hn (by
    split
    ·exact hm
    ·exact mem_cons_of_mem _ hm)
   simp only[L1] at hs
   split at hs
   ·rename_i s' hs'
    simp only[zS] at hs
    subst hs
    exact LW ht _ hs'
   ·split at hs
    ·rename_i hj
     subst hj
     simp only[zS] at hs
     subst hs
     cases he:JE (AG env j) t with
     | true=>exact O1 he
     | false=>rw[he] at hn;simp at hn
    ·simp at hs
theorem Dy {E:Aj} {callF:Nat→List Ae→Option C8} {ops:Array Oper} {o:Oper} {σ:AS} {st:D9} (h:Cf E callF ops o σ=some st):(∀ k∈st.ups.map (·.1),k∈st.writes)∧(st.g.isSome=true→G∈st.writes) ∧
  (∀ k s,C7 k ∉ st.writes→L1 st.ups k=some s→s.skel=(AG σ.env k).skel):=by
 unfold Cf at h
 split at h
 ·simp at h
 ·simp only[zS] at h
  subst h
  refine ⟨fun k hk => ?_,by simp,fun k s hn hs => ?_⟩
  ·unfold AO at hk;unfold Ej
   cases hd:o.dst <;>simp_all
  ·simp only[AO,Ej] at hn hs
   cases hd:o.dst with
   | none=>simp[hd,L1] at hs
   | some d =>
     simp only[hd] at hn hs
     simp only[L1] at hs
     split at hs
     ·rename_i hdk;subst hdk;simp at hn
     ·simp at hs
 ·split at h
  ·simp at h
  rename_i out u hrun
  split at h
  ·simp only[zS] at h
   subst h
   refine ⟨fun k hk=>by simp only[mem_append];exact .inl (.inl hk),fun hg => ?_,fun k s hn hs => ?_⟩
   ·simp only at hg ⊢
    cases hg':out.g with
    | none=>simp[hg'] at hg
    | some g=>simp
   ·simp only[mem_append] at hn
    exact LW (fun hm=>hn (.inl (.inr hm))) s hs
  ·simp at h
theorem Tp {σ0:AS} {sts:List D9} {L:Nat→Bool} {k i N:Nat} (hi:i≤N)
  (hW:∀ m sm s,m<N→sts[m]?=some sm→C7 k ∉ sm.writes→L1 sm.ups k=some s→s.skel=(AG (DO σ0 sts (fun _=>true) m).env k).skel)
  (hpre:∀ p q sp sq,p<q→q<N→sts[p]?=some sp→sts[q]?=some sq→k∈sp.ups.map (·.1)→k∈sq.ups.map (·.1)→L q=true→L p=true)
  (hkey:∀ m sm,m<N→sts[m]?=some sm→C7 k∈sm.writes→k∈sm.ups.map (·.1)→L m=decide (m<i)) :
  (AG (DO σ0 sts L N).env k).skel=(AG (DO σ0 sts (fun _=>true) i).env k).skel:=by
 have hA:∀ M,M≤N→∃ n,n≤M∧∀ m sm,m<M→sts[m]?=some sm→k∈sm.ups.map (·.1)→L m=decide (m<n):=by
  intro M
  induction M with
  | zero=>intro _;exact ⟨0,Nat.le_refl _,fun m sm hm=>by omega⟩
  | succ M ih =>
    intro hM
    obtain ⟨n,hn,h⟩:=ih (by omega)
    by_cases hc:∃ sm,sts[M]?=some sm∧k∈sm.ups.map (·.1)∧L M=true
    ·obtain ⟨sm,h1,h2,h3⟩:=hc
     refine ⟨M+1,Nat.le_refl _,fun m sm' hm hsm' hk' => ?_⟩
     rw[decide_eq_true hm]
     rcases Nat.lt_or_ge m M with h' | h'
     ·exact hpre m M sm' sm h' (by omega) hsm' h1 hk' h2 h3
     ·obtain rfl:m=M:=by omega
      exact h3
    ·refine ⟨n,by omega,fun m sm' hm hsm' hk' => ?_⟩
     rcases Nat.lt_or_ge m M with h' | h'
     ·exact h m sm' h' hsm' hk'
     ·obtain rfl:m=M:=by omega
      rw[decide_eq_false (by omega)]
      cases hL:L m with
      | false=>rfl
      | true=>exact absurd ⟨sm',hsm',hk',hL⟩ hc
 obtain ⟨n,hn,hL⟩:=hA N (Nat.le_refl _)
 have e1:AG (DO σ0 sts L N).env k=AG (DO σ0 sts (fun m=>decide (m<n)) N).env k:=B8 fun m sm hm hsm hk=>hL m sm hm hsm hk
 have e2:∀ d,n+d≤N→DO σ0 sts (fun m=>decide (m<n)) (n+d)=DO σ0 sts (fun m=>decide (m<n)) n:=by
  intro d
  induction d with
  | zero=>intro _;rfl
  | succ d ihd =>
    intro hd
    rw[← ihd (by omega),← Nat.add_assoc]
    conv=>lhs;unfold DO
    cases sts[n+d]? with
    | none=>rfl
    | some s =>
      have:¬ n+d<n:=by omega
      simp[this]
 have e2:=e2 (N - n) (by omega)
 rw[show n+(N - n)=N by omega] at e2
 have e3:AG (DO σ0 sts (fun m=>decide (m<n)) n).env k=AG (DO σ0 sts (fun _=>true) n).env k:=B8 fun m sm hm _ _=>by simp[hm]
 rw[e1,e2,e3]
 have hstep:∀ m,m<N→(∀ sm,sts[m]?=some sm→k∈sm.ups.map (·.1)→C7 k ∉ sm.writes)→(AG (DO σ0 sts (fun _=>true) (m+1)).env k).skel=(AG (DO σ0 sts (fun _=>true) m).env k).skel:=by
  intro m hm hno
  cases hs:sts[m]? with
  | none=>simp only[DO,hs]
  | some sm =>
    rw[Cy hs,if_pos rfl,Fc]
    cases hu:L1 sm.ups k with
    | none=>rfl
    | some s =>
      have hk:k∈sm.ups.map (·.1):=by
       by_cases h:k∈sm.ups.map (·.1)
       ·exact h
       ·rw[Fg h] at hu;simp at hu
      exact hW m sm s hm hs (hno sm hs hk) hu
 have hrange:∀ a d,a+d≤N→(∀ m sm,a≤m→m<a+d→sts[m]?=some sm→k∈sm.ups.map (·.1)→C7 k ∉ sm.writes)→(AG (DO σ0 sts (fun _=>true) (a+d)).env k).skel=(AG (DO σ0 sts (fun _=>true) a).env k).skel:=by
  intro a d
  induction d with
  | zero=>intro _ _;rfl
  | succ d ih =>
    intro hd h
    rw[← Nat.add_assoc,hstep (a+d) (by omega) fun sm hs hk=>h (a+d) sm (by omega) (by omega) hs hk]
    exact ih (by omega) fun m sm h1 h2=>h m sm h1 (by omega)
 rcases Nat.le_total n i with h | h
 ·have:=hrange n (i - n) (by omega) fun m sm h1 h2 hs hk hm=>by
   have q1:=hkey m sm (by omega) hs hm hk
   have q2:=hL m sm (by omega) hs hk
   rw[decide_eq_true (by omega)] at q1
   rw[decide_eq_false (by omega)] at q2
   rw[q1] at q2;simp at q2
  rw[show n+(i - n)=i by omega] at this
  exact this.symm
 ·have:=hrange i (n - i) (by omega) fun m sm h1 h2 hs hk hm=>by
   have q1:=hkey m sm (by omega) hs hm hk
   have q2:=hL m sm (by omega) hs hk
   rw[decide_eq_false (by omega)] at q1
   rw[decide_eq_true (by omega)] at q2
   rw[q1] at q2;simp at q2
  rw[show i+(n - i)=n by omega] at this
  exact this
theorem Fs {xs ys:List Nat} {k:Nat} (h1:k∈xs) (h2:k∈ys):Dm xs ys=true:=by
 unfold Dm
 rw[any_eq_true]
 exact ⟨k,h1,by rw[any_eq_true];exact ⟨k,h2,by simp⟩⟩
theorem KC {before:Array Nat} {j:Nat}:∀ {dn:List (List Nat × List Nat)} {i:Nat} {f w:List Nat},Dj.go before j i dn f w=true→∀ m f' w',dn[m]?=some (f',w') →
  (Dm w' f||Dm w' w||Dm f' w)=true→(before.getD j 0).testBit (i+m)=true
 | [],_,_,_,_,m,_,_,h,_=>by simp at h
 | (f0,w0)::dn,i,f,w,h,m,f',w',hm,hc=>by
   simp only[Dj.go,zB] at h
   cases m with
   | zero =>
     simp only[List.getElem?_cons_zero,zS,zP] at hm
     obtain ⟨rfl,rfl⟩:=hm
     have:=h.1
     rw[hc] at this
     simpa using this
   | succ m =>
     have:=KC h.2 m f' w' (by simpa using hm) hc
     rw[show i+(m+1)=i+1+m by omega];exact this
theorem Hq {before:Array Nat}:∀ {rest dn:List (List Nat × List Nat)} {j:Nat},Dj before j dn rest=true→dn.length=j→∀ p q f' w' f w,p<q→j≤q→(dn++rest)[p]?=some (f',w')→(dn++rest)[q]?=some (f,w) →
  (Dm w' f||Dm w' w||Dm f' w)=true→(before.getD q 0).testBit p=true
 | [],dn,j,_,hl,p,q,f',w',f,w,_,hq,_,h,_=>by
   rw[append_nil,List.getElem?_eq_none (by omega)] at h;simp at h
 | (f0,w0)::rest,dn,j,h,hl,p,q,f',w',f,w,hpq,hq,hp,hqe,hc=>by
   simp only[Dj,zB] at h
   rcases Nat.eq_or_lt_of_le hq with rfl | hq
   ·rw[List.getElem?_append_right (by omega),hl,Nat.sub_self] at hqe
    simp only[List.getElem?_cons_zero,zS,zP] at hqe
    obtain ⟨rfl,rfl⟩:=hqe
    rw[List.getElem?_append_left (by omega)] at hp
    have:=KC h.1 p f' w' hp hc
    simpa using this
   ·have:=Hq (dn:=dn++[(f0,w0)]) h.2 (by simp[hl]) p q f' w' f w hpq (by omega)
    rw[append_assoc] at this
    exact this hp hqe hc
def ME (acc:Array Nat) (o:Oper):Nat:=o.after.foldl (fun s e=>if Region.binds .any e then s ||| 2 ^ e.on ||| acc.getD e.on 0 else s) 0
def bf (l:List Oper):Array Nat:=l.foldl (fun acc o=>acc.push (ME acc o)) #[]
theorem Rq (ops:Array Oper):Region.before ops=bf ops.toList:=by
 unfold Region.before bf
 rw[← Array.foldl_toList];rfl
theorem UR (l:List Oper) (o:Oper):bf (l++[o])=(bf l).push (ME (bf l) o):=by simp[bf]
theorem PE (l:List Oper):∀ acc:Array Nat,(l.foldl (fun acc o=>acc.push (ME acc o)) acc).size=acc.size+l.length:=by
 induction l with
 | nil=>simp
 | cons o l ih=>intro acc;rw[foldl_cons,ih];simp;omega
theorem HK (l:List Oper):(bf l).size=l.length:=by unfold bf;rw[PE];simp
theorem RU (A:Array Nat) (v:Nat) (i:Nat) (h:i<A.size):(A.push v).getD i 0=A.getD i 0:=by
 rw[Array.getD_eq_getD_getElem?,Array.getD_eq_getD_getElem?,Array.getElem?_push,if_neg (by omega)]
theorem J5 (l:List Oper):∀ (acc:Array Nat) (i:Nat),i<acc.size→(l.foldl (fun acc o=>acc.push (ME acc o)) acc).getD i 0=acc.getD i 0:=by
 induction l with
 | nil=>intro _ _ _;rfl
 | cons o l ih =>
   intro acc i hi
   rw[foldl_cons,ih _ _ (by simp;omega),RU _ _ _ hi]
theorem M6 (l l':List Oper):bf (l++l')=l'.foldl (fun acc o=>acc.push (ME acc o)) (bf l):=by unfold bf;rw[List.foldl_append]
theorem Xq {l:List Oper} {j:Nat} {o:Oper} (h:l[j]?=some o):(bf l).getD j 0=ME (bf (l.take j)) o:=by
 have hj:j<l.length:=(List.getElem?_eq_some_iff.1 h).1
 have hl:l=l.take j++([o]++l.drop (j+1)):=Cd h
 have:bf l=(l.drop (j+1)).foldl (fun acc o=>acc.push (ME acc o)) (bf (l.take j++[o])):=by
  rw[← M6,append_assoc];exact congrArg bf hl
 have hs:(bf (l.take j)).size=j:=by rw[HK,length_take];omega
 rw[this,J5 _ _ _ (by rw[HK];simp;omega),UR]
 rw[Array.getD_eq_getD_getElem?,Array.getElem?_push,if_pos hs.symm];rfl
theorem UN {l:List Oper} {j i:Nat}:(bf (l.take j)).getD i 0=if i<j then (bf l).getD i 0 else 0:=by
 by_cases hi:i<(l.take j).length
 ·have h1:i<j∧i<l.length:=by rw[length_take] at hi;omega
  rw[if_pos h1.1]
  have:bf l=(l.drop j).foldl (fun acc o=>acc.push (ME acc o)) (bf (l.take j)):=by
   rw[← M6,take_append_drop]
  rw[this,J5 _ _ _ (by rw[HK];exact hi)]
 ·have hz:(bf (l.take j)).getD i 0=0:=by
   rw[Array.getD_eq_getD_getElem?,Array.getElem?_eq_none (by rw[HK];omega)];rfl
  rw[hz]
  split
  ·rename_i hij
   have:l.length≤i:=by rw[length_take] at hi;omega
   rw[Array.getD_eq_getD_getElem?,Array.getElem?_eq_none (by rw[HK];omega)];rfl
  ·rfl
theorem Sb {acc:Array Nat} {o:Oper} {b:Nat} (h:(ME acc o).testBit b=true):∃ e∈o.after,Region.binds .any e=true∧(b=e.on∨(acc.getD e.on 0).testBit b=true):=by
 unfold ME at h
 rw[← Array.foldl_toList] at h
 have key:∀ (l:List Edge) (s:Nat),(l.foldl (fun s e=>if Region.binds .any e then s ||| 2 ^ e.on ||| acc.getD e.on 0 else s) s).testBit b=true →
   s.testBit b=true∨∃ e∈l,Region.binds .any e=true∧(b=e.on∨(acc.getD e.on 0).testBit b=true):=by
  intro l
  induction l with
  | nil=>intro s hs;exact .inl hs
  | cons e l ih =>
    intro s hs
    rw[foldl_cons] at hs
    rcases ih _ hs with h1 | ⟨e',he',h1⟩
    ·split at h1
     ·rename_i hb
      rw[Nat.testBit_or,Nat.testBit_or,Nat.testBit_two_pow] at h1
      simp only[Bool.or_eq_true,decide_eq_true_eq] at h1
      rcases h1 with (h1 | h1) | h1
      ·exact .inl h1
      ·exact .inr ⟨e,by simp,hb,.inl h1.symm⟩
      ·exact .inr ⟨e,by simp,hb,.inr h1⟩
     ·exact .inl h1
    ·exact .inr ⟨e',mem_cons_of_mem _ he',h1⟩
 rcases key _ _ h with h1 | ⟨e,he,h1⟩
 ·simp at h1
 ·exact ⟨e,by simpa using he,h1⟩
theorem O2 {ops:Array Oper} {j b:Nat} (h:((Region.before ops).getD j 0).testBit b=true) :
  ∃ o,ops[j]?=some o∧∃ e∈o.after,Region.binds .any e=true∧(b=e.on∨((Region.before ops).getD e.on 0).testBit b=true):=by
 rw[Rq] at h ⊢
 cases ho:ops[j]? with
 | none =>
   have:ops.size≤j:=by
    rcases Nat.lt_or_ge j ops.size with h' | h'
    ·rw[Array.getElem?_eq_getElem h'] at ho;simp at ho
    ·exact h'
   rw[Array.getD_eq_getD_getElem?,Array.getElem?_eq_none (by rw[HK];simpa using this)] at h
   simp at h
 | some o =>
   have ho':ops.toList[j]?=some o:=by simpa using ho
   rw[Xq ho'] at h
   obtain ⟨e,he,hb,h1⟩:=Sb h
   refine ⟨o,rfl,e,he,hb,?_⟩
   rcases h1 with h1 | h1
   ·exact .inl h1
   ·rw[UN] at h1
    split at h1
    ·exact .inr h1
    ·simp at h1
section
variable {C:By} {w w':World} {a a':Act} {σ τ:AS} {Lt Lt':Nat→Nat→Prop} {cv cv':Nat→Value} {fp fpU:Nat→Fp} {g g' n:Nat} {env env':List (Nat × AA)} {o:Oper} {Fz Fz':Nat→Prop}
variable {callF:Nat→List Ae→Option C8} {ops:Array Oper} {Q:Exit→Act→World→Prop}
def ZJ (σ τ:AS):Prop:=(∀ k,AG σ.env k=AG τ.env k)∧σ.g=τ.g
theorem If.same (h:If C n w a τ) (hs:ZJ σ τ):If C n w a σ:=by
 obtain ⟨h1,h2⟩:=h
 exact ⟨by cases σ;exact h1.congr hs.1 hs.2,h2⟩
theorem OS (sts:List D9) (hstep:∀ (i:Nat) o,ops[i]?=some o→∃ st,sts[i]?=some st∧Cf C.E callF ops o (DO σ sts (fun _=>true) i)=some st)
  (hok:Lk n (C.fx.map (·.1)) ops=true) (hE:Cv C.P C.E) (hF:∀ f,H6 C.P callF f) (hQ:∀ a' w',If C n w' a' (DO σ sts (fun _=>true) ops.size)→Q .normal a' w') :
  ∀ d m a w,m+d=ops.size→If C n w a (DO σ sts (fun _=>true) m)→wpOps C.P ops Q (List.range' m d) a w:=by
 intro d
 induction d with
 | zero =>
   intro m a w hm hs
   simp only[List.range'_zero,wpOps]
   obtain rfl:m=ops.size:=by omega
   exact hQ a w hs
 | succ d ih =>
   intro m a w hm hs
   rw[List.range'_succ,wpOps_cons]
   have hlt:m<ops.size:=by omega
   obtain ⟨st,h1,h2⟩:=hstep m _ (Array.getElem?_eq_getElem hlt)
   refine Mq (Array.getElem?_eq_getElem hlt) hs hok hE hF h2 fun a' w' hs'=>ih (m+1) a' w' (by omega) ?_
   rw[Cy h1]
   exact hs'
structure ZV (C:By) (n:Nat) (ops:Array Oper) (σ:AS) (sts:List D9) (listed:Array Bool) (w:World) (a:Act):Prop where
 size:listed.size=ops.size
 closed:∀ j,listed.getD j false=true→∀ b,((Region.before ops).getD j 0).testBit b=true→listed.getD b false=true
 st:If C n w a (DO σ sts (fun j=>listed.getD j false) ops.size)
theorem OI (A:Array Bool) (i j:Nat) (hi:i<A.size):(A.setIfInBounds i true).getD j false=(j==i||A.getD j false):=by
 rw[Array.getD_eq_getD_getElem?,Array.getD_eq_getD_getElem?,Array.getElem?_setIfInBounds]
 by_cases h:i=j
 ·subst h;simp[hi]
 ·have:(j==i)=false:=by simp;omega
  simp[h,this]
theorem count_set (A:Array Bool) (i:Nat) (hi:i<A.size) (h:A.getD i true=false):A.toList.count false=(A.setIfInBounds i true).toList.count false+1:=by
 rw[Array.toList_setIfInBounds]
 have hi':i<A.toList.length:=by simpa using hi
 have hv:A.toList[i]=false:=by
  rw[Array.getD_eq_getD_getElem?,Array.getElem?_eq_getElem hi] at h
  simpa using h
 have hpos:0<A.toList.count false:=List.count_pos_iff.2 (hv ▸ List.getElem_mem hi')
 have hc:=List.count_set (b:=false) (a:=true) hi'
 rw[hv] at hc
 rw[hc]
 have e1:(if (false==false)=true then 1 else 0)=1:=rfl
 have e2:(if (true==false)=true then 1 else 0)=0:=rfl
 rw[e1,e2]
 omega
theorem QI (sts:List D9) (hlen:sts.length=ops.size) (hstep:∀ (i:Nat) o,ops[i]?=some o→∃ st,sts[i]?=some st∧Cf C.E callF ops o (DO σ sts (fun _=>true) i)=some st)
  (hrace:Dj (Region.before ops) 0 [] (sts.map fun st=>(st.foot,st.writes))=true)
  (hok:Lk n (C.fx.map (·.1)) ops=true) (hE:Cv C.P C.E) (hF:∀ f,H6 C.P callF f) (hQ:∀ a' w',If C n w' a' (DO σ sts (fun _=>true) ops.size)→Q .normal a' w') :
  ∀ fuel listed a w,listed.toList.count false=fuel→ZV C n ops σ sts listed w a→wpAny C.P .any ops Q fuel listed a w:=by
 have hall:∀ listed a w,ZV C n ops σ sts listed w a→(∀ j,j<ops.size→listed.getD j false=true)→Q .normal a w:=by
  intro listed a w hA hl
  refine hQ a w ?_
  refine hA.st.same ⟨fun k=>B8 fun m st hm hst _=>(hl m hm).symm,Ey fun m st hm hst _=>(hl m hm).symm⟩
 have hrace':∀ p q sp sq,p<q→sts[p]?=some sp→sts[q]?=some sq→(Dm sp.writes sq.foot||Dm sp.writes sq.writes||Dm sp.foot sq.writes)=true→((Region.before ops).getD q 0).testBit p=true:=by
  intro p q sp sq hpq hp hq hc
  exact Hq hrace rfl p q sp.foot sp.writes sq.foot sq.writes hpq (by omega) (by simp[hp]) (by simp[hq]) hc
 intro fuel
 induction fuel with
 | zero =>
   intro listed a w hcnt hA
   have hl:∀ j,j<ops.size→listed.getD j false=true:=by
    intro j hj
    have hj':j<listed.size:=by rw[hA.size];exact hj
    have:listed.toList[j]∈listed.toList:=List.getElem_mem _
    cases hv:listed.toList[j]'(by simpa using hj') with
    | true=>rw[Array.getD_eq_getD_getElem?,Array.getElem?_eq_getElem hj'];simpa using hv
    | false=>rw[hv] at this;exact absurd hcnt (by have:=List.count_pos_iff.2 this;omega)
   refine ⟨?_,hall listed a w hA hl⟩
   rw[List.eq_nil_iff_forall_not_mem]
   intro j hj
   obtain ⟨h0,o,ho,-⟩:=mem_ready.1 hj
   have hj' :=(Array.getElem?_eq_some_iff.1 ho).1
   have:=hl j hj'
   rw[Array.getD_eq_getD_getElem?,Array.getElem?_eq_getElem (by rw[hA.size];exact hj')] at this h0
   simp at this h0
   rw[this] at h0;simp at h0
 | succ fuel ih =>
   intro listed a w hcnt hA
   refine ⟨fun hr=>hall listed a w hA fun j => ?_,fun i hi => ?_⟩
   ·induction j using Nat.strongRecOn with
    | _ j jh =>
      intro hj
      cases hv:listed.getD j false with
      | true=>rfl
      | false =>
        exfalso
        have:j∈Region.ready .any ops listed:=by
         rw[mem_ready]
         refine ⟨?_,ops[j],Array.getElem?_eq_getElem hj,fun e he hb => ?_⟩
         ·rw[Array.getD_eq_getD_getElem?,Array.getElem?_eq_getElem (by rw[hA.size];exact hj)] at hv ⊢
          simpa using hv
         ·have:=(H5 hok (Array.getElem?_eq_getElem hj)).2.2 e he hb
          exact jh e.on this (by omega)
        rw[hr] at this;simp at this
   ·obtain ⟨h0,o,ho,hafter⟩:=mem_ready.1 hi
    have hlt:=(Array.getElem?_eq_some_iff.1 ho).1
    have hil:i<listed.size:=by rw[hA.size];exact hlt
    have hnot:listed.getD i false=false:=by
     rw[Array.getD_eq_getD_getElem?,Array.getElem?_eq_getElem hil] at h0 ⊢
     simpa using h0
    obtain ⟨st,hst,hstep0⟩:=hstep i o ho
    obtain ⟨hw1,hw2,-⟩:=Dy hstep0
    have hwr:∀ (m:Nat) sm,sts[m]?=some sm→(∀ k∈sm.ups.map (·.1),k∈sm.writes)∧(sm.g.isSome=true→G∈sm.writes):=by
     intro m sm hm
     have hml:m<ops.size:=by rw[← hlen];exact (List.getElem?_eq_some_iff.1 hm).1
     obtain ⟨sm',h1,h2⟩:=hstep m _ (Array.getElem?_eq_getElem hml)
     rw[hm] at h1
     obtain rfl:=Option.some.inj h1
     exact ⟨(Dy h2).1,(Dy h2).2.1⟩
    have hpre:∀ b,((Region.before ops).getD i 0).testBit b=true→listed.getD b false=true:=by
     intro b hb
     obtain ⟨o',ho',e,he,hbd,h1⟩:=O2 hb
     rw[ho] at ho'
     obtain rfl:=Option.some.inj ho'
     have hl:=hafter e he hbd
     rcases h1 with rfl | h1
     ·exact hl
     ·exact hA.closed _ hl b h1
    have key:∀ m sm,m<ops.size→sts[m]?=some sm→(Dm st.foot sm.writes=true)→listed.getD m false=decide (m<i):=by
     intro m sm hm hsm hc
     rcases Nat.lt_trichotomy m i with h | h | h
     ·rw[decide_eq_true h]
      refine hpre m (hrace' m i sm st h hsm hst ?_)
      have:Dm sm.writes st.foot=true:=by
       unfold Dm at hc ⊢
       simp only[any_eq_true,beq_iff_eq] at hc ⊢
       obtain ⟨x,hx,y,hy,e⟩:=hc
       exact ⟨y,hy,x,hx,e.symm⟩
      simp[this]
     ·subst h
      rw[hnot];simp
     ·rw[decide_eq_false (by omega)]
      cases hv:listed.getD m false with
      | false=>rfl
      | true =>
        have:=hA.closed m hv i (hrace' i m st sm h hst hsm (by simp[hc]))
        rw[hnot] at this;simp at this
    have hprefix:∀ k,AG (DO σ sts (fun j=>decide (j<i)) ops.size).env k=AG (DO σ sts (fun _=>true) i).env k∧(DO σ sts (fun j=>decide (j<i)) ops.size).g=(DO σ sts (fun _=>true) i).g:=by
     intro k
     have h1:∀ d,i+d≤ops.size→DO σ sts (fun j=>decide (j<i)) (i+d)=DO σ sts (fun j=>decide (j<i)) i:=by
      intro d
      induction d with
      | zero=>intro _;rfl
      | succ d ihd =>
        intro hd
        rw[← ihd (by omega),← Nat.add_assoc]
        conv=>lhs;unfold DO
        cases sts[i+d]? with
        | none=>rfl
        | some s =>
          have:¬ i+d<i:=by omega
          simp[this]
     have h2:=h1 (ops.size - i) (by omega)
     rw[show i+(ops.size - i)=ops.size by omega] at h2
     rw[h2]
     exact ⟨B8 fun m sm hm _ _=>by simp[hm],Ey fun m sm hm _ _=>by simp[hm]⟩
    obtain ⟨st',hst',hsu,hsg⟩:∃ st',Cf C.E callF ops o (DO σ sts (fun j=>listed.getD j false) ops.size)=some st'∧st'.ups=st.ups∧st'.g=st.g:=by
     refine NX hstep0 (fun k hk => ?_) (fun k hk => ?_) (fun hG => ?_)
     ·rw[← (hprefix k).1]
      exact B8 fun m sm hm hsm hk'=>key m sm hm hsm (Fs hk ((hwr m sm hsm).1 k hk'))
     ·refine Tp (by omega) (fun m sm s hm hsm hn hs => ?_) (fun p q sp sq hpq hq hsp hsq h1 h2 hl => ?_) (fun m sm hm hsm hn _=>key m sm hm hsm (Fs hk hn))
      ·obtain ⟨sm',g1,g2⟩:=hstep m _ (Array.getElem?_eq_getElem hm)
       rw[hsm] at g1
       obtain rfl:=Option.some.inj g1
       exact (Dy g2).2.2 k s hn hs
      ·refine hA.closed q hl p (hrace' p q sp sq hpq hsp hsq ?_)
       simp[Fs ((hwr p sp hsp).1 k h1) ((hwr q sq hsq).1 k h2)]
     ·rw[← (hprefix 0).2]
      exact Ey fun m sm hm hsm hg=>key m sm hm hsm (Fs hG ((hwr m sm hsm).2 hg))
    have hlater:∀ m sm,i<m→m<ops.size→sts[m]?=some sm→Dm st.writes sm.writes=true→listed.getD m false=false:=by
     intro m sm him hm hsm hc
     cases hv:listed.getD m false with
     | false=>rfl
     | true =>
       have:=hA.closed m hv i (hrace' i m st sm him hst hsm (by simp[hc]))
       rw[hnot] at this;simp at this
    refine Mq ho hA.st hok hE hF hst' fun a' w' hs' => ?_
    rw[hsu,hsg] at hs'
    refine ih _ a' w' ?_ ⟨?_,?_,?_⟩
    ·have:=count_set listed i hil h0
     omega
    ·rw[Array.size_setIfInBounds];exact hA.size
    ·intro j hj b hb
     rw[OI _ _ _ hil] at hj ⊢
     simp only[Bool.or_eq_true,beq_iff_eq] at hj ⊢
     rcases hj with rfl | hj
     ·exact .inr (hpre b hb)
     ·exact .inr (hA.closed j hj b hb)
    ·have e:(fun j=>(listed.setIfInBounds i true).getD j false)=fun j=>j==i||listed.getD j false:=funext fun j=>OI _ _ _ hil
     rw[e]
     refine hs'.same ⟨fun k => ?_,?_⟩
     ·rw[Ph hst hnot hlt fun m sm h1 h2 h3 h4 h5=>hlater m sm h1 h2 h3 (Fs (hw1 k h5) ((hwr m sm h3).1 k h4))]
      exact (I1 _ _ _).symm
     ·rw[RG hst hnot hlt fun m sm h1 h2 h3 h4 h5=>hlater m sm h1 h2 h3 (Fs (hw2 h5) ((hwr m sm h3).2 h4))]
theorem If.drew (h:If C n w a σ):If C n w.drew a σ:=by
 obtain ⟨⟨h1,Lt,cv,fp,h2⟩,h3⟩:=h
 exact ⟨⟨h1,Lt,cv,fp,h2.quiet (Al.refl w _).drew⟩,h3⟩
theorem RQ {id:Nat} {draw:Bool} {fs:List (List Nat × List Nat)} (hm:C.P.follows .mixedOrders=true) (h:G6 C.E callF ops ops.toList σ=some (τ,fs)) (hr:(!draw||Dj (Region.before ops) 0 [] fs)=true)
  (hok:Lk n (C.fx.map (·.1)) ops=true) (hE:Cv C.P C.E) (hF:∀ f,H6 C.P callF f) (hs:If C n w a σ) (hQ:∀ a' w',If C n w' a' τ→Q .normal a' w'):(Code.region id ops draw).wp C.P Q a w:=by
 obtain ⟨sts,rfl,hlen,hstep,rfl⟩:=IY h
 have hlen':sts.length=ops.size:=by rw[hlen];simp
 have hstep':∀ (i:Nat) o,ops[i]?=some o→∃ st,sts[i]?=some st∧Cf C.E callF ops o (DO σ sts (fun _=>true) i)=some st:=fun i o ho=>hstep i o (by simpa using ho)
 have hQ':∀ a' w',If C n w' a' (DO σ sts (fun _=>true) ops.size)→Q .normal a' w' :=fun a' w' h'=>hQ a' w' (by simpa using h')
 cases draw with
 | false =>
   refine wp_region ?_
   rw[List.range_eq_range']
   exact OS sts hstep' hok hE hF hQ' ops.size 0 a w (by omega) hs
 | true =>
   refine wp_region_any hm ?_
   refine QI sts hlen' hstep' (by simpa using hr) hok hE hF hQ' _ _ a _ (by simp) ⟨by simp,fun j hj => ?_,?_⟩
   ·exfalso
    rw[Array.getD_eq_getD_getElem?,Array.getElem?_replicate] at hj
    split at hj <;>simp at hj
   ·have e:∀ N,DO σ sts (fun j=>(Array.replicate ops.size false).getD j false) N=σ:=by
     intro N
     induction N with
     | zero=>rfl
     | succ N ih =>
       have hf:(Array.replicate ops.size false).getD N false=false:=by
        rw[Array.getD_eq_getD_getElem?,Array.getElem?_replicate];split <;>rfl
       unfold DO
       cases sts[N]? with
       | none=>exact ih
       | some st=>simp only[hf,Bool.false_eq_true,if_false];exact ih
    rw[e]
    exact hs.drew
end
section
variable {C:By} {w w':World} {a a':Act} {σ τ:AS} {Lt Lt':Nat→Nat→Prop} {cv cv':Nat→Value} {fp fpU:Nat→Fp} {g g' n:Nat} {env env':List (Nat × AA)} {o:Oper} {Fz Fz':Nat→Prop}
theorem Qw (F:Nat→AA):∀ (ks:List Nat) (k:Nat),AG (ks.map fun k=>(k,F k)) k=if k∈ks then F k else .dead
 | [],k=>by simp[AG]
 | j::ks,k=>by
   simp only[map_cons,AG,Qw F ks k,mem_cons]
   by_cases h:j=k
   ·subst h;simp
   ·have:¬ k=j:=fun e=>h e.symm
    simp[h,this]
theorem G5 (env:List (Nat × AA)) (keep:List Nat) (s:AA):(s.settle env keep).root=s.root.map (fun x=>(x.1,x.2.1,[])):=by
 cases s with
 | view k pl =>
   simp only[AA.settle]
   split
   ·split
    ·rfl
    ·split <;>rfl
   ·rfl
 | ptr k pl =>
   simp only[AA.settle]
   split
   ·split
    ·rfl
    ·split <;>rfl
   ·rfl
 | clo f caps =>
   simp only[AA.settle]
   split <;>rfl
 | _=>rfl
theorem HE {env:List (Nat × AA)} {keep:List Nat} {s:AA} {v:Value} {vs:List Value} {b:Option (Nat × Nat)} (h:Ai w v s vs b):Ai w v (s.settle env keep) vs b:=by
 cases s <;>first | exact h | exact h.elim
theorem Pp {ps:List Pm} {c:Nat} {el:List Pm} (h:ps[c]?=some (.sl .own el)):noOwns ps=false:=by
 induction ps generalizing c with
 | nil=>simp at h
 | cons p ps ih =>
   cases c with
   | zero =>
     simp only[List.getElem?_cons_zero,zS] at h
     subst h;simp[noOwns,Pm.noOwn]
   | succ c=>simp[noOwns,ih (by simpa using h)]
theorem PX {v u:Value} {s:AA} {pl:AQ} {p:List Pm} {cs:List T} {d:C4} (h:N8 w v s pl u) (hr:s.root=some (p,cs,d)) (hs:Bl d pl=false) (keep:List Nat) (env:List (Nat × AA)):AL (s.settle env keep):=by
 obtain ⟨vs0,base0,el,rv,b,o,h1,h2,h3⟩:=h p cs d hr hs
 cases s with
 | val ag p' cs' d' pin =>
   simp only[AA.root,zS,zP] at hr
   obtain ⟨rfl,rfl,rfl⟩:=hr
   simp only[AA.settle,AL]
   obtain ⟨-,rfl⟩:=h1
   cases hp:pl.path with
   | nil=>rw[hp] at h2;simp[BY] at h2
   | cons ec path =>
     rw[hp] at h2
     obtain ⟨e,c⟩:=ec
     simp only[BY] at h2
     split at h2
     ·rename_i hc;exact Pp hc
     ·simp at h2
 | box=>trivial
 | _=>simp[AA.root] at hr
def kept (keep:List Nat):List Nat:=keep.filter fun k=>Nat.blt k 1000000
theorem Fm {keep:List Nat} {k:Nat}:k∈kept keep↔k∈keep∧k<1000000:=by
 unfold kept;rw[List.mem_filter];simp
theorem B5 (keep:List Nat) (σ:AS) (k:Nat):AG (settle0 keep σ).env k=if k∈kept keep then (AG σ.env k).settle σ.env keep else .dead:=Qw _ _ _
theorem IR (keep:List Nat):∀ {caps:List (Nat × AQ)} {vs:List Value},DH w cv σ.env caps vs→(∀ c∈caps,c.1∈kept keep∧∃ p cs d,(AG σ.env c.1).root=some (p,cs,d)∧Bl d c.2=false) →
  DH w cv (settle0 keep σ).env caps vs
 | [],[],_,_=>trivial
 | [],_::_,h,_=>h.elim
 | _::_,[],h,_=>h.elim
 | c::caps,v::vs,h,hc=>by
   refine ⟨?_,IR keep h.2 fun c' hc'=>hc c' (mem_cons_of_mem _ hc')⟩
   obtain ⟨hk,p,cs,d,hr,hs⟩:=hc c (by simp)
   rw[B5,if_pos hk]
   intro p' cs' d' hr' hs'
   rw[G5,hr] at hr'
   simp only[Option.map_some,zS,zP] at hr'
   obtain ⟨rfl,rfl,rfl⟩:=hr'
   obtain ⟨vs0,base0,el,rv,b,o,h1,h2,h3⟩:=h.1 p cs d hr hs
   exact ⟨vs0,base0,el,rv,b,o,HE h1,h2,h3⟩
theorem Nc (h:CJ C w a σ Lt cv fp) (keep:List Nat):∃ Lt' fp',CJ C w a (settle0 keep σ) Lt' cv fp' :=by
 have hR:∃ Lt',(∀ b j,Lt' b j→Lt b j)∧∀ k∈kept keep,∀ ps ts vs f,((AG σ.env k).settle σ.env keep).lentFree=noLents ps→R w C.Fz Lt σ.g ps ts vs f→R w C.Fz Lt' (settle0 keep σ).g ps ts vs f:=by
  by_cases hl:((kept keep).map fun k=>(k,(AG σ.env k).settle σ.env keep)).all (fun x=>x.2.lentFree)=true
  ·have hg:(settle0 keep σ).g=0:=by
    show (if ((kept keep).map fun k=>(k,(AG σ.env k).settle σ.env keep)).all (fun x=>x.2.lentFree)=true then 0 else σ.g)=0
    rw[if_pos hl]
   rw[hg]
   refine ⟨noLt,fun _ _ h=>h.elim,fun k hk ps ts vs f e hR => ?_⟩
   rw[all_eq_true] at hl
   have:=hl _ (mem_map.2 ⟨k,hk,rfl⟩)
   exact hR.noLent (e ▸ this) (fun _ _ _ _=>id)
  ·have hg:(settle0 keep σ).g=σ.g:=by
    show (if ((kept keep).map fun k=>(k,(AG σ.env k).settle σ.env keep)).all (fun x=>x.2.lentFree)=true then 0 else σ.g)=σ.g
    rw[if_neg hl]
   rw[hg]
   exact ⟨Lt,fun _ _ h=>h,fun _ _ _ _ _ _ _ h=>h⟩
 obtain ⟨Lt',hLt,hR⟩:=hR
 have hlk:∀ j,∀ k∈(AG (settle0 keep σ).env j).looks,k<1000000∧AL (AG (settle0 keep σ).env k):=by
  intro j k hk
  rw[B5] at hk
  by_cases hj:j∈kept keep
  ·rw[if_pos hj] at hk
   have hl:=h.looks j
   have hs:=h.slots j
   cases hg:AG σ.env j with
   | view k' pl =>
     rw[hg] at hk hl hs
     simp only[AA.settle] at hk
     split at hk
     ·rename_i hkk
      split at hk
      ·simp[AA.looks] at hk
      ·rename_i p cs d hroot
       split at hk
       ·simp[AA.looks] at hk
       ·rename_i hst
        simp only[AA.looks,mem_singleton] at hk hl
        subst hk
        have hk0:=(hl k rfl).1
        refine ⟨hk0,?_⟩
        rw[B5,if_pos (Fm.2 ⟨by simpa using hkk,hk0⟩)]
        simp only[Bool.or_eq_true,not_or,Bool.not_eq_true] at hst
        cases hs':AG σ.env k with
        | val ag p' cs' d' pin =>
          rw[hs'] at hroot
          simp only[AA.root,zS,zP] at hroot
          obtain ⟨rfl,-,-⟩:=hroot
          exact hst.2
        | box=>trivial
        | _=>rw[hs'] at hroot;simp[AA.root] at hroot
     ·simp[AA.looks] at hk
   | ptr k' pl =>
     rw[hg] at hk hl hs
     simp only[AA.settle] at hk
     split at hk
     ·rename_i hkk
      split at hk
      ·simp[AA.looks] at hk
      ·rename_i p cs d hroot
       split at hk
       ·simp[AA.looks] at hk
       ·rename_i hst
        simp only[AA.looks,mem_singleton] at hk hl
        subst hk
        have hk0:=(hl k rfl).1
        refine ⟨hk0,?_⟩
        rw[B5,if_pos (Fm.2 ⟨by simpa using hkk,hk0⟩)]
        exact PX hs.2 hroot (by simpa using hst) _ _
     ·simp[AA.looks] at hk
   | clo f caps =>
     rw[hg] at hk hl hs
     simp only[AA.settle] at hk
     split at hk
     ·rename_i hall
      simp only[AA.looks] at hk hl
      obtain ⟨c,hc,rfl⟩:=mem_map.1 hk
      have hk0:=(hl c.1 hk).1
      refine ⟨hk0,?_⟩
      rw[all_eq_true] at hall
      have hc' :=hall c hc
      simp only[zB] at hc'
      obtain ⟨h1,h2⟩:=hc'
      rw[B5,if_pos (Fm.2 ⟨by simpa using h1,hk0⟩)]
      split at h2
      ·simp at h2
      ·rename_i p cs d hroot
       obtain ⟨-,vs,-,hcr⟩:=hs
       have:∀ {caps:List (Nat × AQ)} {vs:List Value},DH w cv σ.env caps vs→c∈caps→∃ v,N8 w (cv c.1) (AG σ.env c.1) c.2 v:=by
        intro caps
        induction caps with
        | nil=>intro vs _ hm;simp at hm
        | cons c0 caps ih =>
          intro vs hcr hm
          cases vs with
          | nil=>exact hcr.elim
          | cons v vs =>
            rw[mem_cons] at hm
            rcases hm with rfl | hm
            ·exact ⟨v,hcr.1⟩
            ·exact ih hcr.2 hm
       obtain ⟨v,hv⟩:=this hcr hc
       exact PX hv hroot (by simpa using h2) _ _
     ·simp[AA.looks] at hk
   | _=>rw[hg] at hk;simp[AA.settle,AA.looks] at hk
  ·rw[if_neg hj] at hk;simp[AA.looks] at hk
 refine ⟨Lt',fun k=>if k∈kept keep then fp k else [],⟨h.tmps,fun k => ?_,fun k => ?_,fun j k hjk x hx y hy => ?_,fun k f hf => ?_,fun b j hb=>h.lt b j (hLt b j hb),hlk,h.fz,h.ext,h.size⟩⟩
 ·by_cases hk:k∈kept keep
  ·have hs:=h.slots k
   have hgk:AG (settle0 keep σ).env k=(AG σ.env k).settle σ.env keep:=by rw[B5,if_pos hk]
   have hRk:=hR k hk
   have hlk0:=h.looks k
   rw[hgk]
   simp only[if_pos hk]
   cases hg:AG σ.env k with
   | dead=>rw[hg] at hs;exact hs
   | gone=>rw[hg] at hs;exact hs
   | und=>rw[hg] at hs;exact hs.1
   | tup m=>rw[hg] at hs;exact hs.1
   | val ag p cs d pin =>
     rw[hg] at hs hRk
     obtain ⟨vs,h1,h2,h3⟩:=hs
     exact ⟨vs,h1,hRk _ _ _ _ rfl h2,h3⟩
   | box p cs d pin =>
     rw[hg] at hs hRk
     obtain ⟨h1,h2⟩:=hs
     exact ⟨hRk _ _ _ _ (by simp[AA.settle,AA.lentFree,noLents,Pm.noLent]) h1,h2⟩
   | view k' pl =>
     rw[hg] at hs hlk0
     obtain ⟨hf,hv⟩:=hs
     simp only[AA.settle]
     split
     ·rename_i hkk
      split
      ·exact hf
      ·rename_i p cs d hroot
       split
       ·exact hf
       ·rename_i hst
        refine ⟨hf,?_⟩
        simp only[Bool.or_eq_true,not_or,Bool.not_eq_true] at hst
        have hk0:=(hlk0 k' (by simp[AA.looks])).1
        rw[B5,if_pos (Fm.2 ⟨by simpa using hkk,hk0⟩)]
        intro p' cs' d' hr' hs'
        rw[G5,hroot] at hr'
        simp only[Option.map_some,zS,zP] at hr'
        obtain ⟨rfl,rfl,rfl⟩:=hr'
        obtain ⟨vs0,base0,el,rv,base,h1,h2,h3⟩:=hv p cs d hroot hst.1
        exact ⟨vs0,base0,el,rv,base,HE h1,h2,h3⟩
     ·exact hf
   | ptr k' pl =>
     rw[hg] at hs hlk0
     obtain ⟨hf,hv⟩:=hs
     simp only[AA.settle]
     split
     ·rename_i hkk
      split
      ·exact hf
      ·rename_i p cs d hroot
       split
       ·exact hf
       ·rename_i hst
        refine ⟨hf,?_⟩
        have hk0:=(hlk0 k' (by simp[AA.looks])).1
        rw[B5,if_pos (Fm.2 ⟨by simpa using hkk,hk0⟩)]
        intro p' cs' d' hr' hs'
        rw[G5,hroot] at hr'
        simp only[Option.map_some,zS,zP] at hr'
        obtain ⟨rfl,rfl,rfl⟩:=hr'
        obtain ⟨vs0,base0,el,rv,b,o,h1,h2,h3⟩:=hv p cs d hroot (by simpa using hst)
        exact ⟨vs0,base0,el,rv,b,o,HE h1,h2,h3⟩
     ·exact hf
   | clo f caps =>
     rw[hg] at hs hlk0
     obtain ⟨hf,vs,h1,h2⟩:=hs
     simp only[AA.settle]
     split
     ·rename_i hall
      refine ⟨hf,vs,h1,IR keep h2 fun c hc => ?_⟩
      rw[all_eq_true] at hall
      have hc' :=hall c hc
      simp only[zB] at hc'
      obtain ⟨c1,c2⟩:=hc'
      refine ⟨Fm.2 ⟨by simpa using c1,(hlk0 c.1 (mem_map.2 ⟨c,hc,rfl⟩)).1⟩,?_⟩
      split at c2
      ·simp at c2
      ·rename_i p cs d hroot
       exact ⟨p,cs,d,hroot,by simpa using c2⟩
     ·exact hf
  ·rw[B5,if_neg hk]
   simp only[if_neg hk]
   rfl
 ·split
  ·exact h.nodup k
  ·simp
 ·split at hx
  ·split at hy
   ·exact h.disj j k hjk x hx y hy
   ·simp at hy
  ·simp at hx
 ·split at hf
  ·exact h.wok k f hf
  ·simp at hf
theorem If.settle0 (h:If C n w a σ) (keep:List Nat):If C n w a (settle0 keep σ):=by
 obtain ⟨⟨h1,Lt,cv,fp,h2⟩,h3⟩:=h
 obtain ⟨Lt',fp',h4⟩:=Nc h2 keep
 exact ⟨⟨h1,Lt',cv,fp',h4⟩,h3⟩
structure Gj where
 w0:World
 Fz:Nat→Prop
 mfp:Fp
def By.re (C:By) (B:Gj):By:=⟨C.P,C.E,B.w0,B.Fz,B.mfp,C.pinv,C.fx⟩
def By.base (C:By):Gj:=⟨C.w0,C.Fz,C.mfp⟩
structure By.Up (C:By) (B:Gj):Prop where
 ext:Al C.w0 B.w0 C.Mut
 fz:∀ b,C.Fz b→B.Fz b
 turns:∀ y∈B.mfp,C.Ok y
theorem By.Up.refl (C:By):C.Up C.base:=⟨Al.refl _ _,fun _ h=>h,fun y hy => .inr ⟨y,hy,rfl,Nat.le_refl _,Nat.le_refl _⟩⟩
theorem By.Up.ok {C:By} {B:Gj} (h:C.Up B) {f:Fe} (hf:(C.re B).Ok f):C.Ok f:=by
 rcases hf with hf | ⟨y,hy,e,h1,h2⟩
 ·exact .inl (Nat.le_trans h.ext.size hf)
 ·rcases h.turns y hy with k | ⟨z,hz,e',k1,k2⟩
  ·exact .inl (e ▸ k)
  ·exact .inr ⟨z,hz,e'.trans e,Nat.le_trans k1 h1,Nat.le_trans h2 k2⟩
theorem By.Up.muts {C:By} {B:Gj} (h:C.Up B) {b j:Nat} (hb:b<C.w0.heap.size) (hm:(C.re B).Mut b j):C.Mut b j:=by
 obtain ⟨y,hy,e,h1,h2⟩:=hm
 rcases h.turns y hy with k | ⟨z,hz,e',k1,k2⟩
 ·omega
 ·exact ⟨z,hz,e'.trans e,by omega,by omega⟩
theorem By.Up.trans {C:By} {B B':Gj} (h:C.Up B) (k:(C.re B).Up B'):C.Up B' :=
 ⟨h.ext.trans k.ext (fun _ _ h=>h) (fun _ _ hb hm=>h.muts hb hm),fun b hb=>k.fz b (h.fz b hb),fun y hy=>h.ok (k.turns y hy)⟩
theorem R.monoFz {ps ts vs fp} (h:R w Fz Lt g ps ts vs fp) (hF:∀ b,Fz b→Fz' b) (hp:∀ f∈fp,¬ Fz' f.b):R w Fz' Lt g ps ts vs fp :=
 h.mono (Al.refl w (fun _ _=>False)) hF (fun _ _ h=>h) (by simp) (by simp) (fun f hf=>⟨by simp,hp f hf,h.noLtAbove f hf⟩)
theorem R.shareIn {ps ts vs fp} (h:R w Fz Lt g ps ts vs fp) (hn:(fp.map Fe.b).Nodup):∃ f',f'.Sublist fp∧∀ Fz':Nat→Prop,(∀ b,Fz b→Fz' b)→(∀ x∈fp,x ∉ f'→Fz' x.b)→(∀ x∈f',¬ Fz' x.b)→R w Fz' Lt g (F1 ps) ts vs f' :=by
 induction h with
 | nil=>exact ⟨[],by simp,fun _ _ _ _ => .nil⟩
 | leaf h _ ih =>
   obtain ⟨f',h1,h2⟩:=ih hn
   exact ⟨f',h1,fun Fz' a b c => .leaf h (h2 Fz' a b c)⟩
 | dead _ ih =>
   obtain ⟨f',h1,h2⟩:=ih hn
   exact ⟨f',h1,fun Fz' a b c => .dead (h2 Fz' a b c)⟩
 | @slE fl el a cap ps ts vs fp h _ ih =>
   obtain ⟨f',h1,h2⟩:=ih hn
   refine ⟨f',h1,fun Fz' a b c => ?_⟩
   cases fl with
   | own=>exact .slE h (h2 Fz' a b c)
   | shr=>exact .slE h (h2 Fz' a b c)
   | lent=>exact .slE h (h2 Fz' a b c)
 | slS h0 hb hz hn' hs hr hi _ _ ih =>
   obtain ⟨f',h1,h2⟩:=ih hn
   exact ⟨f',h1,fun Fz' a b c => .slS h0 hb (a _ hz) hn' hs hr (hi.monoFz a (by simp)) (h2 Fz' a b c)⟩
 | slL h0 hb hl hn' hs hr hi _ _ ih =>
   obtain ⟨f',h1,h2⟩:=ih hn
   exact ⟨f',h1,fun Fz' a b c => .slL h0 hb hl hn' hs hr (hi.monoFz a (by simp)) (h2 Fz' a b c)⟩
 | slX h _ ih =>
   obtain ⟨f',h1,h2⟩:=ih hn
   exact ⟨f',h1,fun Fz' a b c => .slX h (h2 Fz' a b c)⟩
 | @slH fl el a n cap ps ts vs fp _ ih =>
   obtain ⟨f',h1,h2⟩:=ih hn
   refine ⟨f',h1,fun Fz' a b c => ?_⟩
   cases fl <;>exact .slH (h2 Fz' a b c)
 | @slO b off n cap row e fr el cs vs' ps ts vs fp₁ fp₂ h0 hb hz hl hn' hs hr hf hi _ _ ih =>
   simp only[cons_append,map_cons,map_append,nodup_cons,nodup_append] at hn
   obtain ⟨hn1,hn2,hn3,hn4⟩:=hn
   obtain ⟨f',h1,h2⟩:=ih hn3
   refine ⟨⟨b,off,off+n * el.length,off+n * el.length,off+cap * el.length⟩::f',?_,fun Fz' a c d => ?_⟩
   ·exact .cons_cons _ (h1.trans (List.sublist_append_right _ _))
   ·have hne:∀ x:Fe,x∈fp₁∨x∈fp₂→x≠⟨b,off,off+n * el.length,off+n * el.length,off+cap * el.length⟩:=by
     rintro x hx rfl
     apply hn1
     rcases hx with hx | hx
     ·exact mem_append.2 (.inl (mem_map.2 ⟨_,hx,rfl⟩))
     ·exact mem_append.2 (.inr (mem_map.2 ⟨_,hx,rfl⟩))
    have hi' :=hi.share (g' :=g) (Lt' :=Lt) a (fun x hx=>c x (by simp[hx]) (by
     intro hm
     rw[mem_cons] at hm
     rcases hm with hm | hm
     ·exact hne x (.inl hx) hm
     ·exact hn4 _ (mem_map.2 ⟨x,hx,rfl⟩) _ (mem_map.2 ⟨x,h1.subset hm,rfl⟩) rfl))
    rw[GT] at hi'
    have:=R.slO (el:=shares el) (vs' :=vs') (by rw[AN];exact h0) hb (d _ (mem_cons_self ..)) (by rw[AN];exact hl) hn' (by rw[AN];exact hs) (by rw[AN];exact hr) hf hi'
     (h2 Fz' a (fun x hx hx'=>c x (by simp[hx]) (by
       intro hm
       rw[mem_cons] at hm
       rcases hm with hm | hm
       ·exact hne x (.inr hx) hm
       ·exact hx' hm)) (fun x hx=>d x (mem_cons_of_mem _ hx)))
    rw[AN] at this
    exact this
 | rfS h0 hb hz hs hr hi _ _ ih =>
   obtain ⟨f',h1,h2⟩:=ih hn
   exact ⟨f',h1,fun Fz' a b c => .rfS h0 hb (a _ hz) hs hr (hi.monoFz a (by simp)) (h2 Fz' a b c)⟩
 | rfL h0 hb hl hs hr hi _ _ ih =>
   obtain ⟨f',h1,h2⟩:=ih hn
   exact ⟨f',h1,fun Fz' a b c => .rfL h0 hb hl hs hr (hi.monoFz a (by simp)) (h2 Fz' a b c)⟩
 | @rfO b off row e fr el cs vs' ps ts vs fp₁ fp₂ h0 hb hz hl hs hr hf hi _ _ ih =>
   simp only[cons_append,map_cons,map_append,nodup_cons,nodup_append] at hn
   obtain ⟨hn1,hn2,hn3,hn4⟩:=hn
   obtain ⟨f',h1,h2⟩:=ih hn3
   refine ⟨⟨b,off,off+el.length,0,off+el.length⟩::fp₁++f',?_,fun Fz' a c d => ?_⟩
   ·exact .cons_cons _ (List.Sublist.append (List.Sublist.refl _) h1)
   ·exact .rfO h0 hb (d ⟨b,off,off+el.length,0,off+el.length⟩ (by simp)) hl hs hr hf (hi.monoFz a (fun x hx=>d x (by simp[hx])))
     (h2 Fz' a (fun x hx hx'=>c x (by simp[hx]) (by
       intro hm
       simp only[cons_append,mem_cons,mem_append] at hm
       rcases hm with rfl | hm | hm
       ·exact hn1 (mem_append.2 (.inr (mem_map.2 ⟨_,hx,rfl⟩)))
       ·exact hn4 _ (mem_map.2 ⟨x,hm,rfl⟩) _ (mem_map.2 ⟨x,hx,rfl⟩) rfl
       ·exact hx' hm)) (fun x hx=>d x (by simp[hx])))
 | rfX h _ ih =>
   obtain ⟨f',h1,h2⟩:=ih hn
   exact ⟨f',h1,fun Fz' a b c => .rfX h (h2 Fz' a b c)⟩
 | mvE _ ih =>
   obtain ⟨f',h1,h2⟩:=ih hn
   exact ⟨f',h1,fun Fz' a b c => .mvE (h2 Fz' a b c)⟩
 | @mvX g' el t v n cs vs' ps ts vs fp₁ fp₂ h hi _ _ ih =>
   simp only[map_append,nodup_append] at hn
   obtain ⟨hn2,hn3,hn4⟩:=hn
   obtain ⟨f',h1,h2⟩:=ih hn3
   refine ⟨fp₁++f',List.Sublist.append (List.Sublist.refl _) h1,fun Fz' a c d => ?_⟩
   exact .mvX h (hi.monoFz a (fun x hx=>d x (by simp[hx])))
     (h2 Fz' a (fun x hx hx'=>c x (by simp[hx]) (by
       intro hm
       rcases mem_append.1 hm with hm | hm
       ·exact hn4 _ (mem_map.2 ⟨x,hm,rfl⟩) _ (mem_map.2 ⟨x,hx,rfl⟩) rfl
       ·exact hx' hm)) (fun x hx=>d x (by simp[hx])))
 | @mvO b off n cap row e fr el cs vs' ps ts vs fp₁ fp₂ h0 hb hl hs hr hi _ _ ih =>
   simp only[map_append,nodup_append] at hn
   obtain ⟨hn2,hn3,hn4⟩:=hn
   obtain ⟨f',h1,h2⟩:=ih hn3
   refine ⟨fp₁++f',List.Sublist.append (List.Sublist.refl _) h1,fun Fz' a c d => ?_⟩
   exact .mvO h0 hb hl hs hr (hi.monoFz a (fun x hx=>d x (by simp[hx])))
     (h2 Fz' a (fun x hx hx'=>c x (by simp[hx]) (by
       intro hm
       rcases mem_append.1 hm with hm | hm
       ·exact hn4 _ (mem_map.2 ⟨x,hm,rfl⟩) _ (mem_map.2 ⟨x,hx,rfl⟩) rfl
       ·exact hx' hm)) (fun x hx=>d x (by simp[hx])))
 | @bldN b T e p ps ts vs fp hb hpp hz hl _ ih =>
   simp only[map_cons,nodup_cons] at hn
   obtain ⟨hn1,hn3⟩:=hn
   obtain ⟨f',h1,h2⟩:=ih hn3
   refine ⟨⟨b,0,2,0,2⟩::f',.cons_cons _ h1,fun Fz' a c d => ?_⟩
   exact .bldN hb hpp (d ⟨b,0,2,0,2⟩ (by simp)) hl (h2 Fz' a (fun x hx hx'=>c x (by simp[hx]) (by
    intro hm
    rcases mem_cons.1 hm with rfl | hm
    ·exact hn1 (mem_map.2 ⟨_,hx,rfl⟩)
    ·exact hx' hm)) (fun x hx=>d x (by simp[hx])))
 | @bldO b T e p c n cap cur bs ps ts vs fp hb hpp hz hl hc hzc hlc h0 hn' hm' hcs hbs _ ih =>
   simp only[map_cons,nodup_cons,mem_cons,not_or] at hn
   obtain ⟨⟨hn0,hn1⟩,hn2,hn3⟩:=hn
   obtain ⟨f',h1,h2⟩:=ih hn3
   refine ⟨⟨b,0,2,0,2⟩::⟨c,0,cap,0,cap+1⟩::f',.cons_cons _ (.cons_cons _ h1),fun Fz' a k d => ?_⟩
   exact .bldO hb hpp (d ⟨b,0,2,0,2⟩ (by simp)) hl hc (d ⟨c,0,cap,0,cap+1⟩ (by simp)) hlc h0 hn' hm' hcs hbs (h2 Fz' a (fun x hx hx'=>k x (by simp[hx]) (by
    intro hm
    simp only[mem_cons] at hm
    rcases hm with rfl | rfl | hm
    ·exact hn1 (mem_map.2 ⟨_,hx,rfl⟩)
    ·exact hn2 (mem_map.2 ⟨_,hx,rfl⟩)
    ·exact hx' hm)) (fun x hx=>d x (by simp[hx])))
 | fnv hi _ _ ih =>
   obtain ⟨f',h1,h2⟩:=ih hn
   exact ⟨f',h1,fun Fz' a b c => .fnv (hi.monoFz a (by simp)) (h2 Fz' a b c)⟩
theorem CF (p:List Pm):(F1 p).length=p.length:=by simp[F1]
theorem AX.reK {k:Nat} {s:AA} {f:Fp} {B:Gj} (h:AX C w Lt g cv env k f s) (hF:∀ b,C.Fz b→B.Fz b) (hf:∀ x∈f,¬ B.Fz x.b) (hl:∀ k'∈s.looks,AG env' k'=AG env k') :
  AX (C.re B) w Lt g cv env' k f s:=by
 cases s with
 | dead=>exact h
 | gone=>exact h
 | und=>exact h
 | val ag p cs d pin =>
   obtain ⟨vs,h1,h2,h3⟩:=h
   exact ⟨vs,h1,h2.monoFz hF hf,h3⟩
 | tup n=>exact h
 | box p cs d pin =>
   obtain ⟨h1,h2⟩:=h
   exact ⟨h1.monoFz hF hf,h2⟩
 | view k' pl =>
   obtain ⟨h1,h2⟩:=h
   exact ⟨h1,by rw[hl k' (by simp[AA.looks])];exact h2⟩
 | ptr k' pl =>
   obtain ⟨h1,h2⟩:=h
   exact ⟨h1,by rw[hl k' (by simp[AA.looks])];exact h2⟩
 | clo f caps =>
   obtain ⟨h1,vs,h2,h3⟩:=h
   refine ⟨h1,vs,h2,?_⟩
   have:∀ {caps:List (Nat × AQ)} {vs:List Value},(∀ c∈caps,AG env' c.1=AG env c.1)→DH w cv env caps vs→DH w cv env' caps vs:=by
    intro caps
    induction caps with
    | nil=>intro vs _ h;cases vs <;>exact h
    | cons c caps ih =>
      intro vs hc h
      cases vs with
      | nil=>exact h.elim
      | cons v vs=>exact ⟨by rw[hc c (by simp)];exact h.1,ih (fun c' hc'=>hc c' (mem_cons_of_mem _ hc')) h.2⟩
   exact this (fun c hc=>hl c.1 (mem_map.2 ⟨c,hc,rfl⟩)) h3
theorem AX.froze {k:Nat} {s:AA} {f:Fp} (h:AX C w Lt g cv env k f s) (hn:(f.map Fe.b).Nodup) (m:Bool) :
  s.froze m=s∨∃ f',f'.Sublist f∧∀ (B:Gj) (env':List (Nat × AA)),(∀ b,C.Fz b→B.Fz b)→(∀ x∈f,x ∉ f'→B.Fz x.b)→(∀ x∈f',¬ B.Fz x.b)→AX (C.re B) w Lt g cv env' k f' (s.froze m):=by
 cases s with
 | val ag p cs d pin =>
   cases pin with
   | succ=>exact .inl rfl
   | zero =>
     right
     obtain ⟨vs,h1,h2,h3⟩:=h
     cases m with
     | false=>exact ⟨[],by simp,fun B env' a b c=>⟨vs,h1,h2.share a (fun x hx=>b x hx (by simp)),fun h=>absurd rfl h⟩⟩
     | true =>
       obtain ⟨f',q1,q2⟩:=h2.shareIn hn
       exact ⟨f',q1,fun B env' a b c=>⟨vs,h1,q2 B.Fz a b c,fun h=>absurd rfl h⟩⟩
 | box p cs d pin =>
   cases pin with
   | succ=>exact .inl rfl
   | zero =>
     right
     obtain ⟨h1,h2⟩:=h
     generalize hv:cv k=v at h1
     cases h1 with
     | @rfO b off row e fr _ _ vs' _ _ _ f1 f2 h0 hb hz hl hs hsz hf hi r =>
       cases r
       simp only[append_nil,map_cons,nodup_cons] at hn
       have hne:∀ x∈f1,x≠⟨b,off,off+p.length,0,off+p.length⟩:=by
        rintro x hx rfl
        exact hn.1 (mem_map.2 ⟨_,hx,rfl⟩)
       cases m with
       | false =>
         refine ⟨[⟨b,off,off+p.length,0,off+p.length⟩],by simp,fun B env' a c d'=>⟨?_,fun h=>absurd rfl h⟩⟩
         have:=R.rfO (el:=shares p) (cs:=cs) (vs' :=vs') (by rw[AN];exact h0) hb (d' ⟨b,off,off+p.length,0,off+p.length⟩ (by simp)) hl (by rw[AN];exact hs) (by rw[AN];exact hsz) (by rw[AN];exact hf)
          (hi.share (g' :=g) (Lt' :=Lt) a (fun x hx=>c x (by simp[hx]) (by simp only[mem_singleton];exact hne x hx))) (R.nil (w:=w) (Fz:=B.Fz) (Lt:=Lt) (g:=g))
         rw[AN] at this
         rw[hv];exact this
       | true =>
         obtain ⟨f',q1,q2⟩:=hi.shareIn hn.2
         refine ⟨⟨b,off,off+p.length,0,off+p.length⟩::f',by simpa using q1,fun B env' a c d'=>⟨?_,fun h=>absurd rfl h⟩⟩
         have:=R.rfO (el:=F1 p) (cs:=cs) (vs' :=vs') (by rw[CF];exact h0) hb (d' ⟨b,off,off+p.length,0,off+p.length⟩ (by simp)) hl (by rw[CF];exact hs) (by rw[CF];exact hsz) (by rw[CF];exact hf)
          (q2 B.Fz a (fun x hx hx'=>c x (by simp[hx]) (by
            intro hm
            rw[mem_cons] at hm
            rcases hm with hm | hm
            ·exact hne x hx hm
            ·exact hx' hm)) (fun x hx=>d' x (by simp[hx]))) (R.nil (w:=w) (Fz:=B.Fz) (Lt:=Lt) (g:=g))
         rw[CF,append_nil] at this
         rw[hv];exact this
 | _=>exact .inl rfl
theorem Jz (m:Bool) (s:AA):(s.froze m).looks=s.looks∨s.froze m=s:=by
 cases s with
 | val ag p cs d pin=>cases pin <;>first | (left;rfl) | (right;rfl)
 | box p cs d pin=>cases pin <;>first | (left;rfl) | (right;rfl)
 | _=>right;rfl
theorem Oj (F:Nat→AA→AA) (hF:∀ k,F k .dead = .dead):∀ (env:List (Nat × AA)) (k:Nat),AG (env.map fun x=>(x.1,F x.1 x.2)) k=F k (AG env k)
 | [],k=>by simp[AG,hF]
 | x::env,k=>by
   simp only[map_cons,AG,Oj F hF env k]
   by_cases h:x.1=k
   ·simp[h]
   ·simp[h]
theorem Nv (keep:List Nat) (env:List (Nat × AA)) (k:Nat):Ed keep env k .dead = .dead:=by
 unfold Ed
 split
 ·rfl
 ·split <;>rfl
theorem Eh (keep:List Nat) (τ:AS) (k:Nat):AG (D7 keep τ).env k=Ed keep τ.env k (AG τ.env k) :=
 Oj (Ed keep τ.env) (Nv keep τ.env) τ.env k
theorem Q8:∀ {env:List (Nat × AA)} {k:Nat},AG env k ≠ .dead→k∈env.map (·.1)
 | [],k,h=>absurd rfl h
 | x::env,k,h=>by
   simp only[AG] at h
   simp only[map_cons,mem_cons]
   split at h
   ·rename_i e;exact .inl e.symm
   ·exact .inr (Q8 h)
theorem PV:∀ {env:List (Nat × AA)} {k:Nat},AG env k ≠ .dead→(k,AG env k)∈env
 | [],k,h=>absurd rfl h
 | x::env,k,h=>by
   simp only[AG] at h ⊢
   split at h
   ·rename_i e;rw[if_pos e];subst e;exact mem_cons_self ..
   ·rename_i e;rw[if_neg e];exact mem_cons_of_mem _ (PV h)
theorem MY {env:List (Nat × AA)} {j k:Nat} (h:k∈(AG env j).looks):Ko env k=true:=by
 have hne:AG env j ≠ .dead:=by intro e;rw[e] at h;simp[AA.looks] at h
 unfold Ko
 rw[any_eq_true]
 exact ⟨_,PV hne,by rw[any_eq_true];exact ⟨k,h,by simp⟩⟩
theorem G9 {keep:List Nat} {env:List (Nat × AA)} {k:Nat} {s:AA} (h:Ko env k=true):Ed keep env k s=s:=by
 unfold Ed
 simp[h]
open Classical in
theorem Kr (h:CJ C w a σ Lt cv fp) (keep:List Nat):∃ B fp',C.Up B∧CJ (C.re B) w a (D7 keep σ) Lt cv fp' :=by
 have each:∀ k,∃ f',f'.Sublist (fp k)∧∀ (B:Gj),(∀ b,C.Fz b→B.Fz b)→(∀ x∈fp k,x ∉ f'→B.Fz x.b)→(∀ x∈f',¬ B.Fz x.b)→AX (C.re B) w Lt σ.g cv (D7 keep σ).env k f' (AG (D7 keep σ).env k):=by
  intro k
  rw[Eh]
  have hlk:∀ k'∈(AG σ.env k).looks,AG (D7 keep σ).env k'=AG σ.env k' :=fun k' hk'=>by rw[Eh,G9 (MY hk')]
  have same:∃ f',f'.Sublist (fp k)∧∀ (B:Gj),(∀ b,C.Fz b→B.Fz b)→(∀ x∈fp k,x ∉ f'→B.Fz x.b)→(∀ x∈f',¬ B.Fz x.b)→AX (C.re B) w Lt σ.g cv (D7 keep σ).env k f' (AG σ.env k) :=
   ⟨fp k,List.Sublist.refl _,fun B a b c=>(h.slots k).reK a c hlk⟩
  have turn:∀ m,∃ f',f'.Sublist (fp k)∧∀ (B:Gj),(∀ b,C.Fz b→B.Fz b)→(∀ x∈fp k,x ∉ f'→B.Fz x.b)→(∀ x∈f',¬ B.Fz x.b)→AX (C.re B) w Lt σ.g cv (D7 keep σ).env k f' ((AG σ.env k).froze m):=by
   intro m
   rcases (h.slots k).froze (h.nodup k) m with e | ⟨f',h1,h2⟩
   ·rw[e];exact same
   ·exact ⟨f',h1,fun B=>h2 B _⟩
  unfold Ed
  split
  ·exact turn false
  ·split
   ·exact turn true
   ·exact same
 have hch:=Classical.axiomOfChoice each
 obtain ⟨fp',hfp'⟩:=hch
 have hsub:∀ k x,x∈fp' k→x∈fp k:=fun k x hx=>(hfp' k).1.subset hx
 let mfp:Fp:=(σ.env.map (·.1)).flatMap fp'
 let Fz':Nat→Prop:=fun b=>C.Fz b∨∃ k,∃ x∈fp k,x ∉ fp' k∧x.b=b
 let B:Gj:=⟨w,Fz',mfp⟩
 have hin:∀ k x,x∈fp' k→x∈mfp:=by
  intro k x hx
  refine List.mem_flatMap.2 ⟨k,Q8 ?_,hx⟩
  intro e
  have hs:=h.slots k
  rw[e] at hs
  have:fp k=[]:=hs
  have:=hsub k x hx
  simp_all
 have hback:∀ y∈mfp,∃ k,y∈fp' k:=fun y hy=>by
  obtain ⟨k,-,hk⟩:=List.mem_flatMap.1 hy
  exact ⟨k,hk⟩
 have hnot:∀ k,∀ x∈fp' k,¬ Fz' x.b:=by
  rintro k x hx (hz | ⟨k2,y,hy,hy',e⟩)
  ·exact ((h.fz _ hz).2:∀ y∈C.mfp,y.b≠x.b) |> fun hm=>by
    rcases h.wok k x (hsub k x hx) with h1 | ⟨y,hy,e,-⟩
    ·have:=(h.fz _ hz).1;omega
    ·exact hm y hy e
  ·by_cases hk:k=k2
   ·subst hk
    have:=IK (h.nodup k) hy (hsub k x hx) e
    subst this
    exact hy' hx
   ·exact h.disj k k2 hk x (hsub k x hx) y hy e.symm
 refine ⟨B,fp',⟨h.ext,fun b hb => .inl hb,fun y hy => ?_⟩,⟨h.tmps,fun k => ?_,fun k => ?_,fun j k hjk x hx y hy=>h.disj j k hjk x (hsub j x hx) y (hsub k y hy),fun k f hf => .inr ⟨f,hin k f hf,rfl,Nat.le_refl _,Nat.le_refl _⟩,h.lt,fun j k hk => ?_,fun b hb=>⟨?_,fun y hy e => ?_⟩,Al.refl _ _,h.size⟩⟩
 ·obtain ⟨k,hk⟩:=hback y hy
  exact h.wok k y (hsub k y hk)
 ·exact (hfp' k).2 B (fun b hb => .inl hb) (fun x hx hx' => .inr ⟨k,x,hx,hx',rfl⟩) (hnot k)
 ·exact (h.nodup k).sublist ((hfp' k).1.map _)
 ·have hk':k∈(AG σ.env j).looks:=by
   rw[Eh] at hk
   unfold Ed at hk
   split at hk
   ·rcases Jz false (AG σ.env j) with e | e <;>rw[e] at hk <;>exact hk
   ·split at hk
    ·rcases Jz true (AG σ.env j) with e | e <;>rw[e] at hk <;>exact hk
    ·exact hk
  rw[Eh,G9 (MY hk')]
  exact h.looks j k hk'
 ·rcases hb with hb | ⟨k,x,hx,-,rfl⟩
  ·exact Nat.lt_of_lt_of_le (h.fz b hb).1 h.ext.size
  ·exact ((h.slots k).inHeap hx).1
 ·obtain ⟨k,hk⟩:=hback y hy
  exact hnot k y hk (e ▸ hb)
theorem If.settle (h:If C n w a σ) (keep:List Nat):∃ B,C.Up B∧(LA keep=false→B.Fz=C.Fz)∧If (C.re B) n w a (settle keep σ):=by
 have h0:=h.settle0 keep
 unfold Desk.settle
 cases hk:LA keep with
 | false=>exact ⟨C.base,By.Up.refl C,fun _=>rfl,h0⟩
 | true =>
   obtain ⟨⟨h1,Lt,cv,fp,h2⟩,h3⟩:=h0
   obtain ⟨B,fp',hu,h4⟩:=Kr h2 keep
   exact ⟨B,hu,fun e=>by simp at e,⟨h1,Lt,cv,fp',h4⟩,h3⟩
theorem Oy {keep:List (Nat × List Nat)} (h:Fi keep=true) (j:Nat):LA (BQ keep j)=false:=by
 induction keep with
 | nil=>rfl
 | cons x keep ih =>
   obtain ⟨i,k⟩:=x
   unfold Fi at h
   simp only[all_cons,zB,Bool.not_eq_true'] at h
   simp only[BQ]
   split
   ·exact h.1
   ·exact ih (by unfold Fi;exact h.2)
def FW (n:Nat) (ks:List Nat):Code→Bool
 | .region _ ops _=>Lk n ks ops
 | .seq x y=>FW n ks x&&FW n ks y
 | .cond c x y=>(match c with | .tmp t=>Nat.blt t 1000000 | _=>true)&&FW n ks x&&FW n ks y
 | .block _ x=>FW n ks x
 | .loop x=>FW n ks x
 | _=>true
def Ex.toExit:Ex→Exit
 | .normal => .normal
 | .exit id => .exit id
 | .ret => .ret
theorem Xw (p:Nat→Prop) (h:∃ n,p n):∃ n,p n∧∀ m,p m→n≤m:=by
 obtain ⟨n,hn⟩:=h
 induction n using Nat.strongRecOn with
 | _ n ih =>
   by_cases hm:∃ m,m<n∧p m
   ·obtain ⟨m,h1,h2⟩:=hm
    exact ih m h1 h2
   ·refine ⟨n,hn,fun m h1 => ?_⟩
    rcases Nat.lt_or_ge m n with h | h
    ·exact absurd ⟨m,h,h1⟩ hm
    ·exact h
open Classical in
theorem Rt {P:Program} {Q:Exit→Act→World→Prop} {c:Code} (I:Nat→Act→World→Prop) {N:Nat} (h₀:I N a w)
  (round:∀ m a w,I m a w→c.wp P (Exit.then (fun a' w'=>∃ m',m'<m∧I m' a' w') Q) a w):(Code.loop c).wp P Q a w:=by
 have hmin:∀ a w,(∃ m,I m a w)→∃ m,I m a w∧∀ m',I m' a w→m≤m' :=fun a w h=>Xw (fun m=>I m a w) h
 refine wp_loop (fun a w=>∃ m,I m a w) (fun a w=>if h:∃ m,I m a w then Classical.choose (hmin a w h) else 0) ⟨N,h₀⟩ fun a w h => ?_
 have hs:=Classical.choose_spec (hmin a w h)
 refine wp_mono (round _ a w hs.1) fun e a' w' hq => ?_
 cases e with
 | normal =>
   obtain ⟨m',h1,h2⟩:=hq
   refine ⟨⟨m',h2⟩,?_⟩
   rw[dif_pos h,dif_pos ⟨m',h2⟩]
   exact Nat.lt_of_le_of_lt ((Classical.choose_spec (hmin a' w' ⟨m',h2⟩)).2 m' h2) h1
 | _=>exact hq
def By.On (C:By) (keep:List (Nat × List Nat)) (B B':Gj):Prop:=(C.re B).Up B'∧(Fi keep=true→B'.Fz=B.Fz)
theorem By.On.refl (C:By) (keep:List (Nat × List Nat)) (B:Gj):C.On keep B B:=⟨By.Up.refl (C.re B),fun _=>rfl⟩
theorem By.On.trans {C:By} {keep:List (Nat × List Nat)} {B B' B'':Gj} (h:C.On keep B B') (k:C.On keep B' B''):C.On keep B B'' :=
 ⟨By.Up.trans (C:=C.re B) h.1 k.1,fun e=>(k.2 e).trans (h.2 e)⟩
theorem If.settleOn {C:By} {keep:List (Nat × List Nat)} {B:Gj} (h:If (C.re B) n w a σ) (j:Nat):∃ B',C.On keep B B'∧If (C.re B') n w a (Desk.settle (BQ keep j) σ):=by
 obtain ⟨B',h1,h2,h3⟩:=h.settle (BQ keep j)
 exact ⟨B',⟨h1,fun e=>h2 (Oy e j)⟩,h3⟩
theorem PJ {callF:Nat→List Ae→Option C8} {N:Nat} {keep:List (Nat × List Nat)} (hm:C.P.follows .mixedOrders=true) (hE:Cv C.P C.E) (hF:∀ f,H6 C.P callF f):∀ {c:Code} {σ σ':AS} {ex:Ex} {a:Act} {w:World} {Q:Exit→Act→World→Prop} {B:Gj},
  Ab C.E callF N keep c σ=some (ex,σ')→FW n (C.fx.map (·.1)) c=true→If (C.re B) n w a σ→(∀ B' a' w',C.On keep B B'→If (C.re B') n w' a' σ'→Q ex.toExit a' w')→c.wp C.P Q a w:=by
 intro c
 induction c with
 | skip =>
   intro σ σ' ex a w Q B h _ hs hQ
   simp only[Ab,zS,zP] at h
   obtain ⟨rfl,rfl⟩:=h
   exact wp_skip (hQ B a w (.refl C keep B) hs)
 | region id ops draw =>
   intro σ σ' ex a w Q B h hc hs hQ
   simp only[Ab,JM] at h
   split at h
   ·simp at h
   rename_i σ1 fs hrun
   split at h
   ·rename_i hr
    simp only[zS,zP] at h
    obtain ⟨rfl,rfl⟩:=h
    obtain ⟨B1,hB1,hs1⟩:=hs.settleOn (keep:=keep) id
    exact RQ (C:=C.re B1) hm hrun hr hc hE hF hs1 (fun a' w' hs'=>hQ B1 a' w' hB1 hs')
   ·simp at h
 | seq x y ihx ihy =>
   intro σ σ' ex a w Q B h hc hs hQ
   simp only[FW,zB] at hc
   simp only[Ab] at h
   split at h
   ·rename_i σ1 h1
    exact wp_seq (ihx h1 hc.1 hs fun B1 a' w' hB1 hs'=>ihy h hc.2 hs' fun B2 a2 w2 hB2 hs2=>hQ B2 a2 w2 (hB1.trans hB2) hs2)
   ·refine wp_seq (ihx h hc.1 hs fun B1 a' w' hB1 hs' => ?_)
    cases ex with
    | normal=>rename_i hn;exact absurd h (hn σ')
    | exit id=>exact hQ B1 a' w' hB1 hs'
    | ret=>exact hQ B1 a' w' hB1 hs'
 | cond c x y ihx ihy =>
   intro σ σ' ex a w Q B h hc hs hQ
   simp only[FW,zB] at hc
   simp only[Ab] at h
   obtain ⟨⟨hdf,Lt,cv,fp,hst⟩,hfx⟩:=hs
   split at h
   ·rename_i b hb
    have hop:AY c:=by
     cases c with
     | tmp t=>simpa [AY] using hc.1.1
     | _=>trivial
    have hl:=Az hst hop hb
    simp only[AJ] at hl
    cases b with
    | true=>exact wp_cond_true hl (ihx h hc.1.2 ⟨⟨hdf,Lt,cv,fp,hst⟩,hfx⟩ hQ)
    | false=>exact wp_cond_false hl (ihy h hc.2 ⟨⟨hdf,Lt,cv,fp,hst⟩,hfx⟩ hQ)
   ·simp at h
 | block id x ih =>
   intro σ σ' ex a w Q B h hc hs hQ
   simp only[Ab] at h
   split at h
   ·rename_i id' σ1 h1
    refine wp_block (ih h1 hc hs fun B1 a' w' hB1 hs' => ?_)
    simp only[Ex.toExit,Exit.inBlock]
    split at h
    ·rename_i e
     simp only[zS,zP] at h
     obtain ⟨rfl,rfl⟩:=h
     rw[if_pos e];exact hQ B1 a' w' hB1 hs'
    ·rename_i e
     simp only[zS,zP] at h
     obtain ⟨rfl,rfl⟩:=h
     rw[if_neg e];exact hQ B1 a' w' hB1 hs'
   ·refine wp_block (ih h hc hs fun B1 a' w' hB1 hs' => ?_)
    cases ex with
    | exit id'=>rename_i hn;exact absurd h (hn id' σ')
    | normal=>exact hQ B1 a' w' hB1 hs'
    | ret=>exact hQ B1 a' w' hB1 hs'
 | loop x ih =>
   intro σ σ' ex a w Q B h hc hs hQ
   simp only[Ab] at h
   unfold Gx at h
   split at h
   ·simp at h
   rename_i ex0 σ0 h0
   simp only[zS,zP] at h
   obtain ⟨rfl,rfl⟩:=h
   obtain ⟨B0,hB0,hs0⟩:=hs.settleOn (keep:=keep) (Bg x)
   refine Rt (fun m a w=>∃ B1 σ,C.On keep B B1∧If (C.re B1) n w a σ∧Iu m (Desk.settle (BQ keep (Bg x))) (Ab C.E callF N keep x) σ=some (ex0,σ0)) (N:=N) ⟨B0,_,hB0,hs0,h0⟩ fun m a w hI => ?_
   obtain ⟨B1,σ1,hB1,hs1,h1⟩:=hI
   cases m with
   | zero=>simp[Iu] at h1
   | succ m =>
     simp only[Iu] at h1
     split at h1
     ·rename_i σ2 h2
      refine ih h2 hc hs1 fun B2 a' w' hB2 hs' => ?_
      obtain ⟨B3,hB3,hs3⟩:=hs'.settleOn (keep:=keep) (Bg x)
      exact ⟨m,Nat.lt_succ_self m,B3,_,(hB1.trans hB2).trans hB3,hs3,h1⟩
     ·refine ih h1 hc hs1 fun B2 a' w' hB2 hs' => ?_
      obtain ⟨B3,hB3,hs3⟩:=hs'.settleOn (keep:=keep) (I6 x)
      cases ex0 with
      | normal=>rename_i hn;exact absurd h1 (hn σ0)
      | exit id=>exact hQ B3 a' w' ((hB1.trans hB2).trans hB3) hs3
      | ret=>exact hQ B3 a' w' ((hB1.trans hB2).trans hB3) hs3
 | exit id =>
   intro σ σ' ex a w Q B h _ hs hQ
   simp only[Ab,zS,zP] at h
   obtain ⟨rfl,rfl⟩:=h
   exact wp_exit (hQ B a w (.refl C keep B) hs)
 | ret =>
   intro σ σ' ex a w Q B h _ hs hQ
   simp only[Ab,zS,zP] at h
   obtain ⟨rfl,rfl⟩:=h
   exact wp_ret (hQ B a w (.refl C keep B) hs)
 | _=>intro σ σ' ex a w Q B h;simp[Ab] at h
end
def MV:Nat→List B4→List Nat
 | _,[]=>[]
 | i,.iop::ms=>i::MV (i+1) ms
 | i,_::ms=>MV (i+1) ms
def Ew (E:Aj):List ResultVar→List (Nat × Option (Bool × Nat))→Bool
 | [],[]=>true
 | .tmp t::rs,(t',none)::r=>t==t'&&Ew E rs r
 | .cell a t::rs,(a',some (ag,n))::r=>a==a'&&(match E.ty t with
   | some d=>d.agg==ag&&d.sz==n
   | none=>false)&&Ew E rs r
 | _,_=>false
def Qd (E:Aj) (fn:Func) (c:Code) (modes:List B4) (outs:List Nat) (results:List (Nat × Option (Bool × Nat))):Bool :=
 Nat.ble modes.length fn.ntmps&&Nat.ble fn.ntmps 1000000&&FW fn.ntmps (MV 0 modes) c&&Ew E fn.results.toList results&&(results.map (·.1)++outs).all (fun t=>Nat.blt t 1000000)
def V9 (P:Program) (f:Nat) (h:List T→Option (List (Bool × List Pm × List T))):Prop :=
 ∀ ts rs,h ts=some rs→∀ (w:World) (Fz:Nat→Prop) (as:List Ae) (xs:List Value),DX w Fz as xs []→(as.all MU)=true→(as.flatMap fun a=>a.v.cs)=ts →
  ∃ v w',(callFunc f xs.toArray).run P w = .ok (.value v) w'∧Al w w' (fun _ _=>False)∧∃ fr,ON w' Fz noLt 0 (rs.map fun x=>⟨x.1,x.2.1,x.2.2⟩) v fr∧(fr.flatten.map Fe.b).Nodup∧∀ x∈fr.flatten,w.heap.size≤x.b
def XK (h:List T→Option (List (Bool × List Pm × List T))) (as:List Ae):Option C8:=if as.all MU then (match h (as.flatMap fun a=>a.v.cs) with
 | none=>none
 | some rs=>some ⟨rs.map fun x=>⟨x.1,x.2.1,x.2.2⟩,as.map fun _=>none⟩) else none
def Uy (P:Program) (f:Nat) (h:List T→Option (List (Bool × List Pm × List T))):Prop:=H6 P (fun _ as=>XK h as) f
def Hw (P:Program) (E:Aj) (f:Nat):FD→Prop
 | .code c modes outs results _ => ∃ fn, P.funcs[f]? = some fn ∧ (fn.name == "runtime.NumGoroutine") = false ∧ fn.body = some c ∧ Qd E fn c modes outs results = true
 | .ext h=>Uy P f h
 | .sem _ h=>H6 P (fun _ as=>h as) f
section
variable {C:By} {w w':World} {a a':Act} {σ τ:AS} {Lt Lt':Nat→Nat→Prop} {cv cv':Nat→Value} {fp fpU:Nat→Fp} {g g' n:Nat} {env env':List (Nat × AA)} {o:Oper} {Fz Fz':Nat→Prop}
def Ub (w:World) (Fz:Nat→Prop) (arg:Ae) (x:Value) (f:Fp):Prop:=match arg.m with
 | .val=>f=[]∧∃ vs,AE arg.v.agg x vs∧R w Fz noLt 0 arg.v.p arg.v.cs vs f
 | .io=>∃ vs,AE arg.v.agg x vs∧R w Fz noLt 0 arg.v.p arg.v.cs vs f
 | .iop=>∃ p cs,arg.v=⟨false,[.rf .own p],[.ref cs]⟩∧R w Fz noLt 0 [.rf .own p] [.ref cs] [x] f
theorem DX.list {as xs mfp} (h:DX w Fz as xs mfp):xs.length=as.length∧∃ fs:List Fp,fs.length=as.length∧fs.flatten=mfp∧∀ (i:Nat) arg,as[i]?=some arg→∃ x f,xs[i]?=some x∧fs[i]?=some f∧Ub w Fz arg x f:=by
 induction h with
 | nil=>exact ⟨rfl,[],rfl,rfl,by simp⟩
 | @val v x vs as xs fs hc hR r ih =>
   obtain ⟨l,gs,h1,h2,h3⟩:=ih
   refine ⟨by simp[l],[]::gs,by simp[h1],by simp[h2],fun i arg hi => ?_⟩
   cases i with
   | zero =>
     simp only[List.getElem?_cons_zero,zS] at hi
     subst hi
     exact ⟨x,[],rfl,rfl,rfl,vs,hc,hR⟩
   | succ i=>simpa using h3 i arg (by simpa using hi)
 | @io v x vs f as xs fs hc hR r ih =>
   obtain ⟨l,gs,h1,h2,h3⟩:=ih
   refine ⟨by simp[l],f::gs,by simp[h1],by simp[h2],fun i arg hi => ?_⟩
   cases i with
   | zero =>
     simp only[List.getElem?_cons_zero,zS] at hi
     subst hi
     exact ⟨x,f,rfl,rfl,vs,hc,hR⟩
   | succ i=>simpa using h3 i arg (by simpa using hi)
 | @iop p cs x f as xs fs hR r ih =>
   obtain ⟨l,gs,h1,h2,h3⟩:=ih
   refine ⟨by simp[l],f::gs,by simp[h1],by simp[h2],fun i arg hi => ?_⟩
   cases i with
   | zero =>
     simp only[List.getElem?_cons_zero,zS] at hi
     subst hi
     exact ⟨x,f,rfl,rfl,p,cs,rfl,hR⟩
   | succ i=>simpa using h3 i arg (by simpa using hi)
def cellsOf (ag:Bool) (x:Value):List Value:=if ag then (match x with | .agg vs=>vs.toList | _=>[]) else [x]
theorem Kl {ag:Bool} {x:Value} {vs:List Value} (h:AE ag x vs):cellsOf ag x=vs:=by
 cases ag
 ·simp only[AE,Bool.false_eq_true,if_false] at h;simp[cellsOf,h]
 ·simp only[AE,if_true] at h;simp[cellsOf,h]
theorem Hz:∀ (as:List Ae) (s k:Nat),AG (HB s as) k=match (if s≤k then as[k - s]? else none) with | some arg=>IX k arg | none => .dead
 | [],s,k=>by simp[HB,AG]
 | a::as,s,k=>by
   simp only[HB,AG,Hz as (s+1) k]
   by_cases h:s=k
   ·subst h;simp
   ·rw[if_neg h]
    by_cases h1:s≤k
    ·have h2:s+1≤k:=by omega
     rw[if_pos h1,if_pos h2,show k - s=(k - (s+1))+1 by omega,List.getElem?_cons_succ]
    ·rw[if_neg h1,if_neg (by omega)]
theorem MF (i:Nat) (arg:Ae):(IX i arg).looks=[]:=by
 obtain ⟨m,v⟩:=arg
 cases m <;>simp only[IX] <;>try rfl
 split <;>rfl
def Kg:Nat→List Ae→List Value→List (Nat × Value)
 | i,a::as,x::xs=>(match a.m with | .iop=>[(i,x)] | _=>[])++Kg (i+1) as xs
 | _,_,_=>[]
theorem Hv:∀ {ms:List B4} {as:List Ae},DJ ms as=true→ms.length=as.length∧ms=as.map (·.m)
 | [],[],_=>⟨rfl,rfl⟩
 | [],_::_,h=>by simp[DJ] at h
 | _::_,[],h=>by simp[DJ] at h
 | m::ms,a::as,h=>by
   simp only[DJ,zB] at h
   obtain ⟨h1,h2⟩:=Hv h.2
   have:m=a.m:=by
    have:=h.1
    cases m <;>cases hm:a.m <;>simp[B4.beq,hm] at this <;>rfl
   exact ⟨by simp[h1],by simp[h2,this]⟩
theorem Mt:∀ {as:List Ae} {xs:List Value} (i:Nat),xs.length=as.length→(Kg i as xs).map (·.1)=MV i (as.map (·.m))
 | [],[],i,_=>rfl
 | [],_::_,_,h=>by simp at h
 | _::_,[],_,h=>by simp at h
 | a::as,x::xs,i,h=>by
   have ih:=Mt (as:=as) (xs:=xs) (i+1) (by simpa using h)
   simp only[Kg,map_append,ih,map_cons]
   cases hm:a.m <;>simp[MV]
theorem PU:∀ {as:List Ae} {xs:List Value} {i:Nat} {kx:Nat × Value},kx∈Kg i as xs→i≤kx.1∧xs[kx.1 - i]?=some kx.2
 | [],xs,i,kx,h=>by cases xs <;>simp[Kg] at h
 | _::_,[],i,kx,h=>by simp[Kg] at h
 | a::as,x::xs,i,kx,h=>by
   simp only[Kg,mem_append] at h
   rcases h with h | h
   ·cases hm:a.m <;>simp[hm] at h
    subst h
    simp
   ·obtain ⟨h1,h2⟩:=PU h
    refine ⟨by omega,?_⟩
    rw[show kx.1 - i=(kx.1 - (i+1))+1 by omega]
    simpa using h2
theorem Og:∀ {as:List Ae} {xs:List Value} {i j:Nat} {arg:Ae} {x:Value},as[j]?=some arg→arg.m = .iop→xs[j]?=some x→(i+j,x)∈Kg i as xs
 | [],xs,i,j,arg,x,h,_,_=>by simp at h
 | _::_,[],i,j,arg,x,_,_,h=>by simp at h
 | a::as,y::xs,i,j,arg,x,h,hm,hx=>by
   simp only[Kg,mem_append]
   cases j with
   | zero =>
     simp only[List.getElem?_cons_zero,zS] at h hx
     subst h hx
     left;simp[hm]
   | succ j =>
     right
     have:=Og (i:=i+1) (as:=as) (xs:=xs) (j:=j) (by simpa using h) hm (by simpa using hx)
     rwa [show i+1+j=i+(j+1) by omega] at this
def Hb (P:Program) (E:Aj) (w:World) (Fz:Nat→Prop) (as:List Ae) (xs:List Value) (mfp:Fp):By where
 P:=P
 E:=E
 w0:=w
 Fz:=Fz
 mfp:=mfp
 pinv:=fun p=>match as[p - 1]?,xs[p - 1]? with
  | some a,some x=>cellsOf a.v.agg x
  | _,_=>[]
 fx:=Kg 0 as xs
theorem Kk {xs:List Value} {nt k:Nat}:(xs.toArray++Array.replicate (nt - xs.toArray.size) undef).getD k undef=xs.getD k undef:=by
 rw[Array.getD_eq_getD_getElem?,Array.getElem?_append,List.getD_eq_getElem?_getD]
 split
 ·simp
 ·rename_i h
  have h':xs.length≤k:=by simpa using h
  rw[Array.getElem?_replicate,List.getElem?_eq_none h']
  split <;>rfl
theorem TB {P:Program} {E:Aj} {nt:Nat} {as:List Ae} {xs:List Value} {mfp:Fp} (hA:DX w Fz as xs mfp) (hn:(mfp.map Fe.b).Nodup) (hF:∀ b,Fz b→b<w.heap.size) (h1:as.length≤nt) (h2:nt≤1000000) :
  If (Hb P E w Fz as xs mfp) nt w { tmps:=xs.toArray++Array.replicate (nt - xs.toArray.size) undef,defers:=[] } ⟨HB 0 as,0⟩:=by
 obtain ⟨hl,fs,hfl,rfl,hargs⟩:=hA.list
 have hsz:(xs.toArray++Array.replicate (nt - xs.toArray.size) undef).size=nt:=by simp;omega
 have hfd:∀ i f,fs[i]?=some f→∀ x∈f,x∈fs.flatten:=fun i f hi x hx=>mem_flatten.2 ⟨f,List.mem_of_getElem? hi,hx⟩
 have hfg:∀ k,fs.getD k []=(fs[k]?).getD []:=fun k=>List.getD_eq_getElem?_getD
 have hmz:∀ y∈fs.flatten,¬ Fz y.b:=by
  intro y hy
  obtain ⟨f,hf,hyf⟩:=mem_flatten.1 hy
  obtain ⟨i,hi⟩:=List.mem_iff_getElem?.1 hf
  have hia:i<as.length:=by
   have:=(List.getElem?_eq_some_iff.1 hi).1;omega
  obtain ⟨x,f',hx,hf',hR⟩:=hargs i _ (List.getElem?_eq_getElem hia)
  rw[hi] at hf'
  obtain rfl:=Option.some.inj hf'
  unfold Ub at hR
  split at hR
  ·rw[hR.1] at hyf;simp at hyf
  ·obtain ⟨vs,-,hR⟩:=hR;exact (hR.lt y hyf).2.2.2
  ·obtain ⟨p,cs,-,hR⟩:=hR;exact (hR.lt y hyf).2.2.2
 refine ⟨⟨rfl,noLt,fun k=>if k<1000000 then xs.getD k undef else undef,fun k=>fs.getD k [],?_⟩,hsz,fun kx hkx => ?_⟩
 ·refine ⟨fun k hk => ?_,fun k => ?_,fun k => ?_,fun j k hjk x hx y hy => ?_,fun k f hf => ?_,fun _ _ h=>h.elim,fun j k hk => ?_,fun b hb=>⟨hF b hb,fun y hy e=>hmz y hy (e ▸ hb)⟩,Al.refl _ _,?_⟩
  ·show (if k<1000000 then _ else _)=_
   rw[if_pos hk,Kk]
  ·simp only[Hz,Nat.zero_le,if_true,Nat.sub_zero]
   cases ha:as[k]? with
   | none =>
     have:as.length≤k:=by
      rcases Nat.lt_or_ge k as.length with h | h
      ·rw[List.getElem?_eq_getElem h] at ha;simp at ha
      ·exact h
     show fs.getD k []=[]
     rw[hfg,List.getElem?_eq_none (by omega)];rfl
   | some arg =>
     have hk:k<as.length:=(List.getElem?_eq_some_iff.1 ha).1
     obtain ⟨x,f,hx,hf,hR⟩:=hargs k arg ha
     have hcv:(if k<1000000 then xs.getD k undef else undef)=x:=by
      rw[if_pos (by omega),List.getD_eq_getElem?_getD,hx];rfl
     have hfk:fs.getD k []=f:=by rw[hfg,hf];rfl
     have hpin:(Hb P E w Fz as xs fs.flatten).pinv (k+1)=cellsOf arg.v.agg x:=by
      simp only[Hb,Nat.add_sub_cancel,ha,hx]
     obtain ⟨m,v⟩:=arg
     unfold Ub at hR
     cases m with
     | val =>
       simp only at hR
       obtain ⟨hf0,vs,hc,hR⟩:=hR
       rw[hfk]
       exact ⟨vs,by simp only[hcv];exact hc,hR,fun h=>absurd rfl h⟩
     | io =>
       simp only at hR
       obtain ⟨vs,hc,hR⟩:=hR
       rw[hfk]
       exact ⟨vs,by simp only[hcv];exact hc,hR,fun _=>by rw[hpin];exact Kl hc⟩
     | iop =>
       simp only at hR
       obtain ⟨p,cs,rfl,hR⟩:=hR
       rw[hfk]
       simp only[IX,Km]
       exact ⟨by simp only[hcv];exact hR,fun h=>absurd rfl h⟩
  ·simp only[hfg]
   cases hf:fs[k]? with
   | none=>simp
   | some f=>exact FS hn hf
  ·simp only[hfg] at hx hy
   cases h1:fs[j]? with
   | none=>simp[h1] at hx
   | some f =>
     cases h2:fs[k]? with
     | none=>simp[h2] at hy
     | some f' =>
       simp only[h1,Option.getD_some] at hx
       simp only[h2,Option.getD_some] at hy
       exact FP hn h1 h2 hjk x hx y hy
  ·simp only[hfg] at hf
   cases h1:fs[k]? with
   | none=>simp[h1] at hf
   | some f' =>
     simp only[h1,Option.getD_some] at hf
     exact .inr ⟨f,hfd k f' h1 f hf,rfl,Nat.le_refl _,Nat.le_refl _⟩
  ·simp only[Hz] at hk
   split at hk
   ·rw[MF] at hk;simp at hk
   ·simp[AA.looks] at hk
  ·show (xs.toArray++Array.replicate (nt - xs.toArray.size) undef).size≤1000000
   rw[hsz];exact h2
 ·obtain ⟨-,h3⟩:=PU (i:=0) hkx
  show (xs.toArray++Array.replicate (nt - xs.toArray.size) undef).getD kx.1 undef=kx.2
  rw[Kk,List.getD_eq_getElem?_getD]
  rw[Nat.sub_zero] at h3
  rw[h3];rfl
theorem Jv (h:CJ C w a σ Lt cv fp):∀ {ps:List (Nat × Fp)},(ps.map (·.1)).Nodup→(∀ x∈ps,(∀ y∈x.2,y∈fp x.1)∧(x.2.map Fe.b).Nodup)→(((ps.map (·.2)).flatten).map Fe.b).Nodup
 | [],_,_=>by simp
 | p::ps,hn,hf=>by
   simp only[map_cons,nodup_cons] at hn
   simp only[map_cons,flatten_cons,map_append,nodup_append]
   obtain ⟨h1,h2⟩:=hf p (by simp)
   refine ⟨h2,Jv h hn.2 fun x hx=>hf x (mem_cons_of_mem _ hx),fun b hb b' hb' e => ?_⟩
   obtain ⟨x,hx,rfl⟩:=mem_map.1 hb
   obtain ⟨y,hy,rfl⟩:=mem_map.1 hb'
   obtain ⟨f,hf',hyf⟩:=mem_flatten.1 hy
   obtain ⟨q,hq,rfl⟩:=mem_map.1 hf'
   have hne:p.1≠q.1:=fun e=>hn.1 (e ▸ mem_map.2 ⟨q,hq,rfl⟩)
   exact h.disj p.1 q.1 hne x (h1 x hx) y ((hf q (mem_cons_of_mem _ hq)).1 y hyf) e
def Nj (tmps:Array Value):ResultVar→Sem Value
 | .tmp t=>pure (tmps.getD t undef)
 | .cell x t=>do loadVar t (← asAddr (tmps.getD x undef))
theorem Gr (h:CJ C w a σ Lt cv fp) (hE:Cv C.P C.E):∀ {l:List ResultVar} {results:List (Nat × Option (Bool × Nat))} {rs:List V},Ew C.E l results=true→(∀ t∈results.map (·.1),t<1000000)→MZ σ.env results=some rs →
  ∃ vs fs,(l.mapM (Nj a.tmps)).run C.P w = .ok vs w∧FH w C.Fz Lt σ.g rs vs fs ∧
   ∃ ps:List (Nat × Fp),ps.map (·.1)=results.map (·.1)∧ps.map (·.2)=fs∧∀ x∈ps,(∀ y∈x.2,y∈fp x.1)∧(x.2.map Fe.b).Nodup
 | [],[],rs,_,_,hr=>by
   simp only[MZ,zS] at hr
   subst hr
   exact ⟨[],[],rfl,.nil,[],rfl,rfl,by simp⟩
 | [],_::_,rs,ht,_,_=>by simp[Ew] at ht
 | .tmp t::l,[],rs,ht,_,_=>by simp[Ew] at ht
 | .cell x t::l,[],rs,ht,_,_=>by simp[Ew] at ht
 | .tmp t::l,(t',some c)::results,rs,ht,_,_=>by simp[Ew] at ht
 | .cell x t::l,(t',none)::results,rs,ht,_,_=>by simp[Ew] at ht
 | .tmp t::l,(t',none)::results,rs,ht,hlt,hr=>by
   simp only[Ew,zB,beq_iff_eq] at ht
   obtain ⟨rfl,ht⟩:=ht
   simp only[MZ] at hr
   split at hr
   ·simp at hr
   rename_i v hv
   split at hr
   ·simp at hr
   rename_i vs1 hvs
   simp only[zS] at hr
   subst hr
   obtain ⟨vs,fs,h1,h2,ps,h3,h4,h5⟩:=Gr h hE ht (fun t ht=>hlt t (by simp only[map_cons,mem_cons];exact .inr ht)) hvs
   have ht0:t<1000000:=hlt t (by simp)
   have hs:=h.slots t
   have hone:∃ us f,AE v.agg (cv t) us∧R w C.Fz Lt σ.g v.p v.cs us f∧f=fp t:=by
    unfold VE at hv
    split at hv
    ·rename_i hg
     rw[hg] at hs
     simp only[zS] at hv
     subst hv
     obtain ⟨us,c1,c2,-⟩:=hs
     exact ⟨us,_,c1,c2,rfl⟩
    ·rename_i hg
     rw[hg] at hs
     simp only[zS] at hv
     subst hv
     exact ⟨[cv t],_,by simp[AE],hs.1,rfl⟩
    ·simp_all
    ·simp at hv
   obtain ⟨us,f,c1,c2,rfl⟩:=hone
   refine ⟨cv t::vs,fp t::fs,?_,.cons c1 c2 h2,(t,fp t)::ps,by simp[h3],by simp[h4],fun x hx => ?_⟩
   ·simp only[mapM_cons,Nj,Sem.run_bind,Sem.run_pure,Result.andThen_ok,h1,h.tmps t ht0]
   ·rw[mem_cons] at hx
    rcases hx with rfl | hx
    ·exact ⟨fun _ hy=>hy,h.nodup t⟩
    ·exact h5 x hx
 | .cell x t::l,(t',some (ag,n))::results,rs,ht,hlt,hr=>by
   simp only[Ew,zB,beq_iff_eq] at ht
   obtain ⟨⟨rfl,hty⟩,ht⟩:=ht
   split at hty
   ·rename_i d hd
    simp only[zB,beq_iff_eq] at hty
    obtain ⟨rfl,rfl⟩:=hty
    simp only[MZ] at hr
    split at hr
    ·simp at hr
    rename_i v hv
    split at hr
    ·simp at hr
    rename_i vs1 hvs
    simp only[zS] at hr
    subst hr
    obtain ⟨vs,fs,h1,h2,ps,h3,h4,h5⟩:=Gr h hE ht (fun t ht=>hlt t (by simp only[map_cons,mem_cons];exact .inr ht)) hvs
    have ht0:x<1000000:=hlt x (by simp)
    have hs:=h.slots x
    unfold VE at hv
    split at hv
    ·simp_all
    ·simp_all
    ·rename_i a1 n1 p cs dd hcell hg
     simp only[zS,zP] at hcell
     obtain ⟨rfl,rfl⟩:=hcell
     split at hv
     ·rename_i hpl
      have hpl:p.length=d.sz:=by simpa using hpl
      simp only[zS] at hv
      subst hv
      obtain ⟨vs0,base0,fI,hrv,hR,hsub,hk⟩:=hs.rootR (s:=AG σ.env x) (p:=p) (cs:=cs) (d:=dd) (by rw[hg];rfl)
      rcases hk with ⟨_,_,e,_⟩ | ⟨pin,b,off,row,e,fr,e1,e2,hcv,hb,e3,hsz,hfp,-⟩
      ·rw[hg] at e;simp at e
      ·obtain ⟨u,k1,k2⟩:=Gy (P:=C.P) (E:=C.E) (t:=t) (hE t d hd) hb (by omega:off+d.sz≤row.size)
       have hnI:(fI.map Fe.b).Nodup:=by
        have:=h.nodup x
        rw[hfp] at this
        simp only[map_cons,nodup_cons] at this
        exact this.2
       refine ⟨u::vs,fI::fs,?_,.cons k2 (by rw[← hpl,← e3];exact hR) h2,(x,fI)::ps,by simp[h3],by simp[h4],fun y hy => ?_⟩
       ·have ha:∀ ad,asAddr (.pointer (some ad))=(pure ad:Sem Addr):=fun _=>rfl
        simp only[mapM_cons,Nj,Sem.run_bind,Sem.run_pure,Result.andThen_ok,h1,← h.tmps x ht0,hcv,ha,k1]
       ·rw[mem_cons] at hy
        rcases hy with rfl | hy
        ·exact ⟨hsub,hnI⟩
        ·exact h5 y hy
     ·simp at hv
    ·simp at hv
   ·simp at hty
end
section
variable {C:By} {w w':World} {a a':Act} {σ τ:AS} {Lt Lt':Nat→Nat→Prop} {cv cv':Nat→Value} {fp fpU:Nat→Fp} {g g' n:Nat} {env env':List (Nat × AA)} {o:Oper} {Fz Fz':Nat→Prop}
theorem GU (h:CJ C w a σ Lt cv fp):∀ {as:List Ae} {xs:List Value} {i:Nat} {outs:List Nat} {os:List (Option V)},xs.length=as.length →
  (∀ j arg,as[j]?=some arg→∃ x,xs[j]?=some x∧(arg.m = .io→∃ vs,AE arg.v.agg x vs∧C.pinv (i+j+1)=vs)∧(arg.m = .iop→cv (i+j)=x)) →
  Hy σ.env i (as.map (·.m)) outs=some os →
  ∃ fo,EP w C.Fz Lt σ.g as xs os fo∧∃ ps:List (Nat × Fp),(ps.map (·.1)).Sublist outs∧(ps.map (·.2)).flatten=fo∧∀ x∈ps,(∀ y∈x.2,y∈fp x.1)∧(x.2.map Fe.b).Nodup
 | [],xs,i,outs,os,hl,_,ho=>by
   have:xs=[]:=length_eq_zero_iff.1 hl
   subst this
   simp only[map_nil,Hy,zS] at ho
   subst ho
   exact ⟨[],.nil,[],by simp,rfl,by simp⟩
 | _::_,[],i,outs,os,hl,_,_=>by simp at hl
 | ⟨m,v⟩::as,x::xs,i,outs,os,hl,ha,ho=>by
   have hl':xs.length=as.length:=by simpa using hl
   have ha':∀ j arg,as[j]?=some arg→∃ x,xs[j]?=some x∧(arg.m = .io→∃ vs,AE arg.v.agg x vs∧C.pinv (i+1+j+1)=vs)∧(arg.m = .iop→cv (i+1+j)=x):=by
    intro j arg hj
    obtain ⟨x',h1,h2,h3⟩:=ha (j+1) arg (by simpa using hj)
    refine ⟨x',by simpa using h1,?_,?_⟩
    ·intro hm;have:=h2 hm;rwa [show i+(j+1)+1=i+1+j+1 by omega] at this
    ·intro hm;have:=h3 hm;rwa [show i+(j+1)=i+1+j by omega] at this
   obtain ⟨x0,hx0,hio,hiop⟩:=ha 0 ⟨m,v⟩ rfl
   simp only[List.getElem?_cons_zero,zS] at hx0
   subst hx0
   rw[Nat.add_zero] at hio hiop
   cases m with
   | val =>
     simp only[map_cons,Hy] at ho
     split at ho
     ·simp at ho
     rename_i vs hvs
     simp only[zS] at ho
     subst ho
     obtain ⟨fo,h1,h2⟩:=GU h hl' ha' hvs
     exact ⟨fo,.val h1,h2⟩
   | io =>
     cases outs with
     | nil=>simp[Hy] at ho
     | cons t ts =>
       simp only[map_cons,Hy] at ho
       split at ho
       ·simp at ho
       rename_i ov hov
       split at ho
       ·simp at ho
       rename_i vs hvs
       simp only[zS] at ho
       subst ho
       obtain ⟨fo,h1,ps,h2,h3,h4⟩:=GU h hl' ha' hvs
       obtain ⟨us,hc,hpin⟩:=hio rfl
       have hs:=h.slots t
       have key:∃ f,R w C.Fz Lt σ.g ov.p ov.cs us f∧(∀ y∈f,y∈fp t)∧(f.map Fe.b).Nodup:=by
        unfold Ve at hov
        split at hov
        ·rename_i hg
         split at hov
         ·rename_i hp
          simp only[zS] at hov
          subst hov
          rw[hg] at hs
          obtain ⟨us',c1,c2,c3⟩:=hs
          have:=c3 (by omega)
          rw[hp,hpin] at this
          subst this
          exact ⟨_,c2,fun _ h=>h,h.nodup t⟩
         ·simp at hov
        ·rename_i p cs dd pin _ hg
         split at hov
         ·rename_i hp
          simp only[zS] at hov
          subst hov
          obtain ⟨vs0,base0,fI,hrv,hR,hsub,hk⟩:=hs.rootR (s:=AG σ.env t) (p:=p) (cs:=cs) (d:=dd) (by rw[hg];rfl)
          rcases hk with ⟨_,_,e,_⟩ | ⟨pin',b,off,row,e,fr,e1,e2,hcv,hb,e3,hsz,hfp,-⟩
          ·rw[hg] at e;simp at e
          ·rw[hg] at hs
           obtain ⟨b2,off2,row2,ee,fr2,d1,d2,d3⟩:=hs.2 (by omega)
           rw[hcv] at d1
           obtain ⟨rfl,rfl⟩:b=b2∧off=off2:=by simpa using d1
           rw[hb] at d2
           obtain ⟨rfl,rfl,rfl⟩:row=row2∧e=ee∧fr=fr2:=by simpa using d2
           rw[hp,hpin] at d3
           have hn:=h.nodup t
           rw[hfp] at hn
           simp only[map_cons,nodup_cons] at hn
           exact ⟨fI,by rw[← d3,← e3];exact hR,hsub,hn.2⟩
         ·simp at hov
        ·simp_all
        ·simp at hov
       obtain ⟨f,k1,k2,k3⟩:=key
       refine ⟨f++fo,.io hc k1 h1,(t,f)::ps,by simpa using h2,by simp[h3],fun y hy => ?_⟩
       rw[mem_cons] at hy
       rcases hy with rfl | hy
       ·exact ⟨k2,k3⟩
       ·exact h4 y hy
   | iop =>
     cases outs with
     | nil=>simp[Hy] at ho
     | cons t ts =>
       simp only[map_cons,Hy] at ho
       split at ho
       ·simp at ho
       rename_i ov hov
       split at ho
       ·simp at ho
       rename_i vs hvs
       simp only[zS] at ho
       subst ho
       obtain ⟨fo,h1,ps,h2,h3,h4⟩:=GU h hl' ha' hvs
       have hs:=h.slots t
       unfold Ve at hov
       split at hov
       ·simp_all
       ·simp_all
       ·rename_i p cs dd _ hg
        split at hov
        ·rename_i hti
         subst hti
         simp only[zS] at hov
         subst hov
         rw[hg] at hs
         have hR:=hs.1
         rw[hiop rfl] at hR
         refine ⟨fp t++fo,.iop hR h1,(t,fp t)::ps,by simpa using h2,by simp[h3],fun y hy => ?_⟩
         rw[mem_cons] at hy
         rcases hy with rfl | hy
         ·exact ⟨fun _ h=>h,h.nodup _⟩
         ·exact h4 y hy
        ·simp at hov
       ·simp at hov
theorem FH.anyFz {rs:List V} {xs:List Value} {fs:List Fp} (h:FH w Fz Lt g rs xs fs) (hc:(rs.all fun v=>clean2s v.p)=true) (hF:∀ b,Fz' b→Fz b):FH w Fz' Lt g rs xs fs:=by
 induction h with
 | nil=>exact .nil
 | cons h hR _ ih =>
   simp only[all_cons,zB] at hc
   exact .cons h (hR.anyFz hc.1 fun f hf hb=>(hR.lt f hf).2.2.2 (hF _ hb)) (ih hc.2)
theorem EP.anyFz {as:List Ae} {xs:List Value} {os:List (Option V)} {fo:Fp} (h:EP w Fz Lt g as xs os fo) (hc:Jd os=true) (hF:∀ b,Fz' b→Fz b):EP w Fz' Lt g as xs os fo:=by
 unfold Jd at hc
 induction h with
 | nil=>exact .nil
 | val _ ih =>
   simp only[all_cons,zB] at hc
   exact .val (ih hc.2)
 | io h hR _ ih =>
   simp only[all_cons,zB] at hc
   exact .io h (hR.anyFz hc.1 fun f hf hb=>(hR.lt f hf).2.2.2 (hF _ hb)) (ih hc.2)
 | iop hR _ ih =>
   simp only[all_cons,zB] at hc
   exact .iop (hR.anyFz hc.1 fun f hf hb=>(hR.lt f hf).2.2.2 (hF _ hb)) (ih hc.2)
theorem UI {P:Program} {E:Aj} (hm:P.follows .mixedOrders=true) (hE:Cv P E) {N f:Nat} (ih:∀ f,H6 P (AZ E N) f) {c:Code} {modes:List B4} {outs:List Nat} {ress:List (Nat × Option (Bool × Nat))} {keep:List (Nat × List Nat)}
  {as:List Ae} {r:C8} (hs:DJ modes as=true) (h:NO modes outs ress keep (Ab E (AZ E N) N keep c ⟨HB 0 as,0⟩)=some r) (ht:Hw P E f (.code c modes outs ress keep))
  {xs:List Value} {mfp:Fp} (hA:DX w Fz as xs mfp) (hn:(mfp.map Fe.b).Nodup) (hF:∀ b,Fz b→b<w.heap.size):Nx P f xs.toArray w (I0 w Fz as xs mfp r):=by
 obtain ⟨fn,hf,hname,hb,htab⟩:=ht
 unfold Qd at htab
 simp only[zB,Nat.ble_eq,all_eq_true] at htab
 obtain ⟨⟨⟨⟨t1,t2⟩,t3⟩,t4⟩,t5⟩:=htab
 have t5:∀ t∈ress.map (·.1)++outs,t<1000000:=fun t ht=>by simpa using t5 t ht
 obtain ⟨hml,hmm⟩:=Hv hs
 obtain ⟨hxl,fs,hfl,hflat,hargs⟩:=hA.list
 right
 refine ⟨?_,?_⟩
 ·have h1 : fn.name ≠ "runtime.NumGoroutine" := by simpa using hname
  simp[callFunc,hf,h1,hb]
 ·have hst:=TB (P:=P) (E:=E) hA hn hF (by omega:as.length≤fn.ntmps) t2
  unfold NO at h
  split at h
  ·simp at h
  ·simp at h
  ·rename_i ex σ' hnex hev
   split at h
   ·simp at h
   rename_i rs hrs
   split at h
   ·simp at h
   rename_i os hos
   split at h
   ·rename_i hnd
    rw[zB] at hnd
    obtain ⟨hnd,hcl⟩:=hnd
    have hnd:=BJ hnd
    simp only[zS] at h
    subst h
    have hks:(Hb P E w Fz as xs mfp).fx.map (·.1)=MV 0 modes:=by
     show (Kg 0 as xs).map (·.1)=_
     rw[Mt 0 hxl,hmm]
    have hpost:∀ B' a' w',(Hb P E w Fz as xs mfp).On keep (Hb P E w Fz as xs mfp).base B'→If ((Hb P E w Fz as xs mfp).re B') fn.ntmps w' a' σ'→a'.defers=[]∧∃ v,(results fn a'.tmps).run P w' = .ok v w'∧I0 w Fz as xs mfp ⟨rs,os⟩ v w' :=by
     intro B' a' w' hOn hs'
     have hFz:∀ b,Fz b→B'.Fz b:=hOn.1.fz
     obtain ⟨⟨hdf,Lt,cv,fp,hst'⟩,hsz,hfx⟩:=hs'
     refine ⟨hdf,?_⟩
     obtain ⟨vs,frs,r1,r2,ps,r3,r4,r5⟩:=Gr hst' hE t4 (fun t ht=>t5 t (mem_append.2 (.inl ht))) hrs
     rw[hmm] at hos
     obtain ⟨fo,o1,po,o2,o3,o4⟩:=GU hst' (i:=0) hxl (fun j arg hj=>by
      obtain ⟨x,f,hx,hf',hR⟩:=hargs j arg hj
      refine ⟨x,hx,fun hio => ?_,fun hiop => ?_⟩
      ·unfold Ub at hR
       rw[hio] at hR
       obtain ⟨vs,hc,-⟩:=hR
       refine ⟨vs,hc,?_⟩
       show (match as[0+j+1 - 1]?,xs[0+j+1 - 1]? with | some a,some x=>cellsOf a.v.agg x | _,_=>[])=vs
       rw[Nat.zero_add,Nat.add_sub_cancel,hj,hx]
       exact Kl hc
      ·have:=Og (i:=0) hj hiop hx
       have h2:=hfx _ this
       simp only[Nat.zero_add] at h2 ⊢
       have hjl:j<1000000:=by
        have:=(List.getElem?_eq_some_iff.1 hj).1;omega
       rw[hst'.tmps j hjl];exact h2) hos
     have hcl2:FH w' Fz Lt σ'.g rs vs frs∧EP w' Fz Lt σ'.g as xs os fo:=by
      cases hkf:Fi keep with
      | true =>
        have e:B'.Fz=Fz:=hOn.2 hkf
        rw[← e]
        exact ⟨r2,o1⟩
      | false =>
        rw[hkf,Bool.false_or,zB] at hcl
        exact ⟨r2.anyFz hcl.1 hFz,o1.anyFz hcl.2 hFz⟩
     obtain ⟨r2,o1⟩:=hcl2
     have hv:∃ v,(results fn a'.tmps).run P w' = .ok v w'∧ON w' Fz Lt σ'.g rs v frs:=by
      have hres:results fn a'.tmps=(do
        let vs ← fn.results.mapM (Nj a'.tmps)
        pure (if h:vs.size=1 then vs[0] else .tuple vs):Sem Value):=rfl
      rw[hres,Array.mapM_eq_mapM_toList]
      simp only[Sem.run_bind,Sem.run_map]
      have r1' :=r1
      have hl:=r2.length.1
      have hsize:∀ {v},vs=[v]→rs.length=1:=fun e=>by rw[e] at hl;simpa using hl.symm
      rw[show ((Hb P E w Fz as xs mfp).re B').P=P from rfl] at r1'
      rw[r1']
      simp only[Result.andThen_ok,Sem.run_pure]
      refine ⟨_,rfl,vs,r2,?_⟩
      match rs,hl with
      | [u],hl =>
        obtain ⟨v,rfl⟩:=length_eq_one_iff.1 hl
        simp
      | [],hl =>
        have:vs=[]:=length_eq_zero_iff.1 hl
        subst this
        simp
      | _::_::_,hl =>
        have:¬ vs.toArray.size=1:=by simp only[List.size_toArray,hl,length_cons];omega
        simp only[this,dite_false]
     obtain ⟨v,hv1,hv2⟩:=hv
     refine ⟨v,hv1,hOn.1.ext.trans hst'.ext (fun _ _ h=>h) (fun _ _ hb hm=>hOn.1.muts hb hm),Lt,σ'.g,frs,fo,hv2,o1,?_,fun x hx => ?_⟩
     ·have:frs.flatten++fo=((ps++po).map (·.2)).flatten:=by rw[map_append,List.flatten_append,r4,o3]
      rw[this]
      refine Jv hst' ?_ fun x hx => ?_
      ·rw[map_append,r3]
       exact hnd.sublist (List.Sublist.append (List.Sublist.refl _) o2)
      ·rw[mem_append] at hx
       rcases hx with hx | hx
       ·exact r5 x hx
       ·exact o4 x hx
     ·have:∃ t,x∈fp t:=by
       rw[mem_append] at hx
       rcases hx with hx | hx
       ·rw[← r4] at hx
        obtain ⟨f,hf',hxf⟩:=mem_flatten.1 hx
        obtain ⟨q,hq,rfl⟩:=mem_map.1 hf'
        exact ⟨q.1,(r5 q hq).1 x hxf⟩
       ·rw[← o3] at hx
        obtain ⟨f,hf',hxf⟩:=mem_flatten.1 hx
        obtain ⟨q,hq,rfl⟩:=mem_map.1 hf'
        exact ⟨q.1,(o4 q hq).1 x hxf⟩
      obtain ⟨t,ht⟩:=this
      exact hOn.1.ok (hst'.wok t x ht)
    refine calls_of_wp hf hb ?_
    refine PJ (C:=Hb P E w Fz as xs mfp) (n:=fn.ntmps) (B:=(Hb P E w Fz as xs mfp).base) hm hE ih hev (by rw[hks];exact t3) hst fun B' a' w' hB hs' => ?_
    cases ex with
    | normal=>exact hpost B' a' w' hB hs'
    | ret=>exact hpost B' a' w' hB hs'
    | exit id=>exact (hnex id rfl).elim
   ·simp at h
theorem Vp {P:Program} {f:Nat} {hx:List T→Option (List (Bool × List Pm × List T))} {as:List Ae} {rs:List (Bool × List Pm × List T)} (hv:(as.all MU)=true) (h:hx (as.flatMap fun a=>a.v.cs)=some rs) (ht:V9 P f hx)
  {xs:List Value} {mfp:Fp} (hA:DX w Fz as xs mfp):Nx P f xs.toArray w (I0 w Fz as xs mfp ⟨rs.map fun x=>⟨x.1,x.2.1,x.2.2⟩,as.map fun _=>none⟩):=by
 have hm:mfp=[]∧∀ (w':World) (L:Nat→Nat→Prop) (g:Nat),EP w' Fz L g as xs (as.map fun _=>none) []:=by
  clear h
  induction hA with
  | nil=>exact ⟨rfl,fun _ _ _ => .nil⟩
  | val hc hR r ih =>
    simp only[all_cons,zB] at hv
    exact ⟨(ih hv.2).1,fun w' L g => .val ((ih hv.2).2 w' L g)⟩
  | io=>simp[MU] at hv
  | iop=>simp[MU] at hv
 obtain ⟨rfl,hO⟩:=hm
 obtain ⟨v,w',h1,h2,fr,h3,h4,h5⟩:=ht _ rs h w Fz as xs hA hv rfl
 refine .inl ⟨v,w',h1,h2.mono (by simp),noLt,0,fr,[],h3,hO w' _ _,by simpa using h4,fun x hx' => .inl (h5 x (by simpa using hx'))⟩
theorem V9.ok {P:Program} {f:Nat} {hx:List T→Option (List (Bool × List Pm × List T))} (ht:V9 P f hx):Uy P f hx:=by
 intro as r h w Fz xs mfp hA _ _
 simp only[XK] at h
 split at h
 ·rename_i hv
  split at h
  ·simp at h
  ·rename_i rs hrs
   simp only[zS] at h
   subst h
   exact Vp hv hrs ht hA
 ·simp at h
theorem R5 {P:Program} {E:Aj} (hm:P.follows .mixedOrders=true) (hE:Cv P E) (hT:∀ f fd,E.fn f=some fd→Hw P E f fd):∀ (N:Nat) (f:Nat),H6 P (AZ E N) f:=by
 intro N
 induction N with
 | zero=>intro f as r h;simp[AZ] at h
 | succ N ih =>
   intro f as r h w Fz xs mfp hA hn hF
   simp only[AZ] at h
   split at h
   ·simp at h
   ·rename_i hx hfd
    exact hT f _ hfd as r h w Fz xs mfp hA hn hF
   ·rename_i hx hfd
    exact hT f _ hfd as r h w Fz xs mfp hA hn hF
   ·rename_i c modes outs results keep hfd
    split at h
    ·rename_i hs
     exact UI hm hE ih hs h (hT f _ hfd) hA hn hF
    ·simp at h
end
def Iz (E:Aj):Nat→List (Nat × Nat)→List Pm→Bool
 | _,[],[]=>true
 | o,(off,ty)::r,ps=>Nat.beq off o&&(match E.ty ty with
   | some d=>Nat.ble d.sz ps.length&&pbeqs (ps.take d.sz) d.own&&Iz E (o+d.sz) r (ps.drop d.sz)
   | none=>false)
 | _,_,_=>false
def QM (E:Aj) (d:TD):Bool:=match d.kd with
 | .int _=>pbeqs d.own [.leaf]
 | .flt _=>pbeqs d.own [.leaf]
 | .bool=>pbeqs d.own [.leaf]
 | .str=>pbeqs d.own [.leaf]
 | .slc e=>match E.ty e with
   | some de=>pbeqs d.own [.sl .own de.own]
   | none=>false
 | .st fs=>Iz E 0 fs d.own
 | _=>true
def CL (E:Aj):Nat→Nat→Bool
 | 0,_=>false
 | n+1,t=>match E.ty t with
   | none=>false
   | some d=>QM E d&&(match d.kd with
     | .int _=>true
     | .flt _=>true
     | .bool=>true
     | .str=>true
     | .slc e=>CL E n e
     | .st fs=>fs.all fun f=>CL E n f.2
     | _=>false)
mutual
inductive WT (E:Aj):Nat→List T→Prop
 | int {t d k n} (h:E.ty t=some d) (hk:d.kd = .int k) (h1:k.min≤n) (h2:n≤k.max):WT E t [.int k n]
 | flt {t d k x} (h:E.ty t=some d) (hk:d.kd = .flt k) (h1:Au k x=x) (h2:(Lit.float k x).wf=true):WT E t [.flt k x]
 | bool {t d b} (h:E.ty t=some d) (hk:d.kd = .bool):WT E t [.bool b]
 | str {t d s} (h:E.ty t=some d) (hk:d.kd = .str) (hl:s.length≤maxLen):WT E t [.str s]
 | slc {t d e n cs} (h:E.ty t=some d) (hk:d.kd = .slc e) (hl:n≤maxLen) (hs:WTs E e n cs):WT E t [.lst n cs]
 | st {t d fs cs} (h:E.ty t=some d) (hk:d.kd = .st fs) (hf:WTf E fs cs):WT E t cs
inductive WTs (E:Aj):Nat→Nat→List T→Prop
 | nil {e}:WTs E e 0 []
 | snoc {e n cs c} (h:WTs E e n cs) (hc:WT E e c):WTs E e (n+1) (cs++c)
inductive WTf (E:Aj):List (Nat × Nat)→List T→Prop
 | nil:WTf E [] []
 | cons {off ty r c cs} (hc:WT E ty c) (h:WTf E r cs):WTf E ((off,ty)::r) (c++cs)
end
theorem JW {α β:Type} {f:α→Option β}:∀ {l:List α} {r:List β},l.mapM f=some r→r.length=l.length∧∀ (i:Nat) (x:α),l[i]?=some x→∃ y,r[i]?=some y∧f x=some y
 | [],r,h=>by
   simp only[List.mapM_nil] at h
   have:r=[]:=(Option.some.inj h).symm
   subst this
   exact ⟨rfl,by simp⟩
 | a::l,r,h=>by
   simp only[mapM_cons,Option.bind_eq_bind] at h
   cases ha:f a with
   | none=>simp[ha] at h
   | some b =>
     cases hl:l.mapM f with
     | none=>simp[ha,hl] at h
     | some bs =>
       simp[ha,hl] at h
       subst h
       obtain ⟨h1,h2⟩:=JW hl
       refine ⟨by simp[h1],fun i x hx => ?_⟩
       cases i with
       | zero =>
         simp only[List.getElem?_cons_zero,zS] at hx
         subst hx
         exact ⟨b,rfl,ha⟩
       | succ i=>simpa using h2 i x (by simpa using hx)
theorem LU {w:World} {base:Nat} {a:Addr} {n:Nat} {vs:List Value} (h:w.cells? base a n=some vs) (hn:0<n) :
  ∃ row e fr,w.heap[a.block]?=some (.cells row e fr)∧a.spot=none∧vs=seg row a.off n∧a.off+n≤row.size:=by
 unfold World.cells? at h
 split at h
 ·obtain ⟨hl,hv⟩:=JW h
  have hl:vs.length=n:=by simpa using hl
  have key:∀ i,i<n→∃ v,vs[i]?=some v∧w.cell? (a.add i)=some v:=fun i hi=>hv i i (by simp[hi])
  obtain ⟨v0,-,hv0⟩:=key 0 hn
  simp only[World.cell?,Addr.add,if_true] at hv0
  split at hv0
  ·rename_i row e fr hb
   split at hv0
   ·simp at hv0
   rename_i hsp
   have hsp:a.spot=none:=by cases hs:a.spot <;>simp[hs] at hsp;rfl
   have hcell:∀ i,i<n→vs[i]?=row[a.off+i]? :=by
    intro i hi
    obtain ⟨v,h1,h2⟩:=key i hi
    rw[h1]
    unfold World.cell? Addr.add at h2
    by_cases hi0:i=0
    ·subst hi0
     simp only[if_true,hb,hsp,Option.isSome_none,Bool.false_eq_true,if_false] at h2
     rw[Nat.add_zero,h2]
    ·simp only[hi0,if_false,hb,Option.isSome_none,Bool.false_eq_true] at h2
     rw[h2]
   have hsize:a.off+n≤row.size:=by
    have h1:=hcell (n - 1) (by omega)
    rw[List.getElem?_eq_getElem (by omega)] at h1
    have:=(Array.getElem?_eq_some_iff.1 h1.symm).1
    omega
   refine ⟨row,e,fr,hb,hsp,?_,hsize⟩
   apply List.ext_getElem?
   intro i
   rw[seg_getElem?]
   split
   ·rename_i hi;exact hcell i hi
   ·rename_i hi;rw[List.getElem?_eq_none (by omega)]
  ·simp at hv0
 ·simp at h
theorem Ft {row:Array Value} {off m n:Nat}:seg row off (m+n)=seg row off m++seg row (off+m) n:=by
 unfold seg
 rw[List.take_add,drop_drop]
section
variable {P:Program} {E:Aj} {w:World} {H:Type} {enc:TypeId × Value→H}
theorem Gm {t:Nat} {d:TD} (h:HZ P E t d):P.cellsOf t=d.sz:=by
 obtain ⟨i,z,h1,h2,-⟩:=h.info
 unfold Program.cellsOf
 simp[h1,h2]
theorem R.fields {Fz:Nat→Prop} {n:Nat} (hE:Cv P E) {read:Nat→List Value→Option (DataW H × List MemPlace)} {cs:List Value} (hread:∀ ty d vs x,E.ty ty=some d→read ty vs=some x→CL E n ty=true→∃ ts,R w Fz noLt 0 (shares d.own) ts vs []∧WT E ty ts) :
  ∀ {fields:List Field} {fs:List (Nat × Nat)} {o:Nat} {ps:List Pm} {xs},fields.map (fun f=>(f.offset,f.type))=fs→Iz E o fs ps=true→(∀ f∈fs,CL E n f.2=true) →
   fields.mapM (fun f=>read f.type ((cs.drop f.offset).take (P.cellsOf f.type)))=some xs→∃ ts,R w Fz noLt 0 (shares ps) ts ((cs.drop o).take ps.length) []∧WTf E fs ts:=by
 intro fields
 induction fields with
 | nil =>
   intro fs o ps xs hfs hb _ _
   simp only[map_nil] at hfs
   subst hfs
   cases ps with
   | nil=>exact ⟨[],by simpa [shares] using R.nil,.nil⟩
   | cons=>simp[Iz] at hb
 | cons f fields ih =>
   intro fs o ps xs hfs hb hp hm
   simp only[map_cons] at hfs
   subst hfs
   simp only[Iz,zB,Nat.beq_eq] at hb
   obtain ⟨h1,hb⟩:=hb
   split at hb
   ·rename_i d hd
    simp only[zB,Nat.ble_eq] at hb
    obtain ⟨⟨hb1,hb2⟩,hb3⟩:=hb
    have hb2:=pbeqs_eq hb2
    simp only[mapM_cons,Option.bind_eq_bind] at hm
    cases hr:read f.type ((cs.drop f.offset).take (P.cellsOf f.type)) with
    | none=>simp[hr] at hm
    | some x =>
      cases hl:fields.mapM (fun f=>read f.type ((cs.drop f.offset).take (P.cellsOf f.type))) with
      | none=>simp[hr,hl] at hm
      | some ys =>
        obtain ⟨ts1,r1,w1⟩:=hread _ d _ x hd hr (hp (f.offset,f.type) (by simp))
        obtain ⟨ts2,r2,w2⟩:=ih rfl hb3 (fun f hf=>hp f (mem_cons_of_mem _ hf)) hl
        refine ⟨ts1++ts2,?_,.cons w1 w2⟩
        have hsz:=Gm (hE _ _ hd)
        rw[hsz,h1] at r1
        have es:shares ps=shares d.own++shares (ps.drop d.sz):=by rw[← Ht,← hb2,take_append_drop]
        have e2:(cs.drop o).take ps.length=(cs.drop o).take d.sz++(cs.drop (o+d.sz)).take (ps.drop d.sz).length:=by
         have:ps.length=d.sz+(ps.drop d.sz).length:=by rw[length_drop];omega
         rw[this,List.take_add,drop_drop]
        rw[es,e2]
        exact r1.append r2
   ·simp at hb
theorem Vb {Fz:Nat→Prop} (hE:Cv P E) (hFz:∀ b,b<w.heap.size→Fz b) {spare:Nat→Bool}:∀ {fuel n t:Nat} {cs:List Value} {d:TD} {x},E.ty t=some d→CL E n t=true→DataW.trod enc P w 0 spare true fuel t cs=some x →
  ∃ ts,R w Fz noLt 0 (shares d.own) ts cs []∧WT E t ts:=by
 intro fuel
 induction fuel with
 | zero=>intro n t cs d x _ _ h;simp[DataW.trod] at h
 | succ fuel ih =>
   intro n t cs d x hd hp h
   cases n with
   | zero=>simp[CL] at hp
   | succ n =>
     simp only[CL,hd,zB] at hp
     obtain ⟨ho,hk⟩:=hp
     obtain ⟨u,hu,hkd,-⟩:=(hE t d hd).und
     simp only[DataW.trod,hu] at h
     unfold Gh at hkd
     cases hkk:d.kd with
     | int k =>
       simp only[hkk] at hkd
       subst hkd
       simp only[QM,hkk] at ho
       rw[pbeqs_eq ho]
       split at h <;>try (simp_all;done)
       rename_i k1 k' m hcs
       simp only[zS,TypeDesc.int.injEq] at hcs
       subst hcs
       split at h
       ·rename_i hc
        obtain ⟨rfl,hw⟩:=hc
        simp only[Lit.wf,zB,decide_eq_true_eq] at hw
        exact ⟨[.int k' m],.leaf rfl .nil,.int hd hkk hw.1 hw.2⟩
       ·simp at h
     | flt k =>
       simp only[hkk] at hkd
       subst hkd
       simp only[QM,hkk] at ho
       rw[pbeqs_eq ho]
       split at h <;>try (simp_all;done)
       rename_i k1 k' m hcs
       simp only[zS,TypeDesc.float.injEq] at hcs
       subst hcs
       split at h
       ·rename_i hc
        obtain ⟨rfl,hw⟩:=hc
        refine ⟨[.flt k' (Au k' m)],.leaf ⟨m,rfl,rfl⟩ .nil,.flt hd hkk (Py _ _) ?_⟩
        unfold Au
        split
        ·cases k' <;>rfl
        ·exact hw
       ·simp at h
     | bool =>
       simp only[hkk] at hkd
       subst hkd
       simp only[QM,hkk] at ho
       rw[pbeqs_eq ho]
       split at h <;>try (simp_all;done)
       rename_i b _
       exact ⟨[.bool b],.leaf rfl .nil,.bool hd hkk⟩
     | str =>
       simp only[hkk] at hkd
       subst hkd
       simp only[QM,hkk] at ho
       rw[pbeqs_eq ho]
       split at h <;>try (simp_all;done)
       rename_i s _
       split at h
       ·rename_i hl
        exact ⟨[.str s.data.toList],.leaf rfl .nil,.str hd hkk (by simpa using hl)⟩
       ·simp at h
     | slc e =>
       simp only[hkk] at hkd hk
       obtain ⟨rfl,-⟩:=hkd
       simp only[QM,hkk] at ho
       split at ho
       ·rename_i de hde
        rw[pbeqs_eq ho]
        have hsz:=Gm (hE e de hde)
        have hpos:=(hE e de hde).pos
        have hlen:=(hE e de hde).len
        split at h <;>try (simp_all;done)
        ·exact ⟨[.lst 0 []],.slE (by simp) .nil,.slc hd hkk (Nat.zero_le _) .nil⟩
        ·rename_i e1 a len cap hcs
         simp only[zS,TypeDesc.slice.injEq] at hcs
         subst hcs
         split at h
         ·rename_i hc
          obtain ⟨-,hlc,hcm⟩:=hc
          simp only[Option.bind_eq_some_iff] at h
          obtain ⟨elems,he,-⟩:=h
          obtain ⟨-,hel⟩:=JW he
          have hat:∀ i,i<len→∃ vs y,w.cells? 0 (a.add (i * de.sz)) de.sz=some vs∧DataW.trod enc P w 0 spare true fuel e vs=some y:=by
           intro i hi
           obtain ⟨y,-,hy⟩:=hel i i (by simp[hi])
           simp only[hsz,Option.bind_eq_some_iff] at hy
           obtain ⟨vs,h1,h2⟩:=hy
           exact ⟨vs,y,h1,h2⟩
          rcases Nat.eq_zero_or_pos len with rfl | hl
          ·exact ⟨[.lst 0 []],.slE (by simp) .nil,.slc hd hkk (Nat.zero_le _) .nil⟩
          ·obtain ⟨vs0,-,hc0,-⟩:=hat 0 hl
           obtain ⟨row,ety,fr,hb,hsp,-,-⟩:=LU hc0 hpos
           simp only[Nat.zero_mul,Addr.add,if_true] at hb hsp
           have hcell:∀ i,i<len→∃ y,DataW.trod enc P w 0 spare true fuel e (seg row (a.off+i * de.sz) de.sz)=some y∧a.off+i * de.sz+de.sz≤row.size:=by
            intro i hi
            obtain ⟨vs,y,h1,h2⟩:=hat i hi
            obtain ⟨row',ety',fr',k1,-,k3,k4⟩:=LU h1 hpos
            have hblk:(a.add (i * de.sz)).block=a.block:=by unfold Addr.add;split <;>rfl
            have hoff:(a.add (i * de.sz)).off=a.off+i * de.sz:=by unfold Addr.add;split <;>simp_all
            rw[hblk,hb] at k1
            obtain ⟨rfl,-,-⟩:row=row'∧ety=ety'∧fr=fr' :=by simpa using k1
            rw[hoff] at k3 k4
            exact ⟨y,k3 ▸ h2,k4⟩
           have hall:∀ m,m≤len→∃ ts,R w Fz noLt 0 (rep m (shares de.own)) ts (seg row a.off (m * de.sz)) []∧WTs E e m ts:=by
            intro m
            induction m with
            | zero=>intro _;exact ⟨[],by simpa [rep,seg] using R.nil,.nil⟩
            | succ m ihm =>
              intro hm
              obtain ⟨ts,r1,w1⟩:=ihm (by omega)
              obtain ⟨y,hy,-⟩:=hcell m (by omega)
              obtain ⟨c,r2,w2⟩:=ih hde hk hy
              refine ⟨ts++c,?_,.snoc w1 w2⟩
              rw[Dx,Bp,Nat.add_mul,Nat.one_mul,Ft]
              exact r1.append r2
           obtain ⟨ts,r1,w1⟩:=hall len (Nat.le_refl _)
           obtain ⟨y,-,hsize⟩:=hcell (len - 1) (by omega)
           have hsz2:a.off+len * de.sz≤row.size:=by
            have:(len - 1) * de.sz+de.sz=len * de.sz:=by
             obtain ⟨m,rfl⟩:∃ m,len=m+1:=⟨len - 1,by omega⟩
             rw[Nat.add_sub_cancel,Nat.add_mul,Nat.one_mul]
            omega
           refine ⟨[.lst len ts],?_,.slc hd hkk (Nat.le_trans hlc hcm) w1⟩
           have hb':a.block<w.heap.size:=by
            rcases Nat.lt_or_ge a.block w.heap.size with h' | h'
            ·exact h'
            ·simp[h'] at hb
           have hsh:(shares de.own).length=de.sz:=by rw[AN,hlen]
           have:=R.slS (Fz:=Fz) (Lt:=noLt) (g:=0) (ps:=[]) (ts:=[]) (vs:=[]) (fp:=[]) (b:=a.block) (off:=a.off) (n:=len) (cap:=cap) (el:=shares de.own) (by rw[hsh];exact hpos) hb (hFz _ hb') hlc rfl (by rw[hsh];exact hsz2)
            (by rw[hsh];exact r1) .nil
           obtain ⟨ab,ao,asp⟩:=a
           simp only at hsp
           subst hsp
           exact this
         ·simp at h
       ·simp at ho
     | st fs =>
       simp only[hkk] at hkd hk
       obtain ⟨fields,rfl,hfs⟩:=hkd
       simp only[QM,hkk] at ho
       split at h <;>try (simp_all;done)
       rename_i fs1 hcs
       simp only[zS,TypeDesc.struct.injEq] at hcs
       subst hcs
       split at h
       ·rename_i hlen
        simp only[Option.map_eq_some_iff] at h
        obtain ⟨xs,hxs,-⟩:=h
        obtain ⟨ts,r1,w1⟩:=R.fields (n:=n) (Fz:=Fz) hE (read:=fun ty vs=>DataW.trod enc P w 0 spare true fuel ty vs) (fun ty d vs x h1 h2 h3=>ih h1 h3 h2) hfs ho (by simpa using hk) hxs
        refine ⟨ts,?_,.st hd hkk w1⟩
        rw[drop_zero,(hE t d hd).len,← Gm (hE t d hd),← hlen,take_length] at r1
        exact r1
       ·simp at h
     | ptr e=>simp[hkk] at hk
     | other=>simp[hkk] at hk
end
def br {α:Type} (b:Bool) (x y:Option α):Option α:=match b with
 | true=>x
 | false=>y
def gd {α:Type} (b:Bool) (x:Option α):Option α:=match b with
 | true=>x
 | false=>none
def bd {α β:Type} (o:Option α) (k:α→Option β):Option β:=match o with
 | none=>none
 | some a=>k a
theorem BF {α:Type} {b:Bool} {x:Option α} {r:α} (h:gd b x=some r):b=true∧x=some r:=by
 cases b
 ·simp[gd] at h
 ·exact ⟨rfl,h⟩
theorem Ch {α β:Type} {o:Option α} {k:α→Option β} {r:β} (h:bd o k=some r):∃ a,o=some a∧k a=some r:=by
 cases o with
 | none=>simp[bd] at h
 | some a=>exact ⟨a,rfl,h⟩
theorem NF {α:Type} {b:Bool} {x y:Option α} {r:α} (h:br b x y=some r):(b=true∧x=some r)∨(b=false∧y=some r):=by
 cases b
 ·exact .inr ⟨rfl,h⟩
 ·exact .inl ⟨rfl,h⟩
inductive CK where
 | int (k:IntKind)
 | flt (k:FloatKind)
 | bool
 | str
 | lst
 | bad
def Wn:T→CK
 | .int k _ => .int k
 | .flt k _ => .flt k
 | .bool _ => .bool
 | .str _ => .str
 | .lst _ _ => .lst
 | _ => .bad
def DA (cs:List T) (j:Nat):Int:=match cs[j]? with
 | some (.int _ n)=>n
 | _=>0
def JU (cs:List T) (j:Nat):Nat:=match cs[j]? with
 | some (.flt _ x)=>x
 | _=>0
def KX (cs:List T) (j:Nat):Bool:=match cs[j]? with
 | some (.bool b)=>b
 | _=>false
def ZU (cs:List T) (j:Nat):List UInt8:=match cs[j]? with
 | some (.str s)=>s
 | _=>[]
def EF (cs:List T) (j:Nat):Nat:=match cs[j]? with
 | some (.lst n _)=>n
 | _=>0
def EN (cs:List T) (j:Nat):List T:=match cs[j]? with
 | some (.lst _ l)=>l
 | _=>[]
def MO (k:CK) (t:T):Bool:=match k,t with
 | .int k,.int k' _=>k==k'
 | .flt k,.flt k' _=>k==k'
 | .bool,.bool _=>true
 | .str,.str _=>true
 | .lst,.lst _ _=>true
 | _,_=>false
def Ag:List CK→List T→Nat→Bool
 | [],_,_=>true
 | k::ks,cs,j=>(match cs[j]? with
   | some t=>MO k t
   | none=>false)&&Ag ks cs (j+1)
def QK (k:CK) (cs:List T) (j:Nat):T:=match k with
 | .int k => .int k (DA cs j)
 | .flt k => .flt k (JU cs j)
 | .bool => .bool (KX cs j)
 | .str => .str (ZU cs j)
 | .lst => .lst (EF cs j) (EN cs j)
 | .bad => .nil
def Ik:List CK→List T→Nat→List T
 | [],_,_=>[]
 | k::ks,cs,j=>QK k cs j::Ik ks cs (j+1)
theorem Ru {k:CK} {cs:List T} {j:Nat} {t:T} (h:cs[j]?=some t) (hk:MO k t=true):QK k cs j=t:=by
 cases k <;>cases t <;>simp[MO] at hk <;>simp[QK,DA,JU,KX,ZU,EF,EN,h,hk]
theorem IL:∀ {ks:List CK} {cs:List T} {j:Nat},Ag ks cs j=true→C3 cs j ks.length=some (Ik ks cs j)
 | [],_,_,_=>rfl
 | k::ks,cs,j,h=>by
   simp only[Ag,zB] at h
   obtain ⟨h1,h2⟩:=h
   split at h1
   ·rename_i t ht
    simp only[length_cons,C3,ht,IL h2,Ik,Ru ht h1]
   ·simp at h1
inductive A8 where
 | int (n:Int)
 | flt (x:Nat)
 | bool (b:Bool)
 | str (s:List UInt8)
 | lst (n:Nat) (cs:List T)
 | nat (n:Nat)
mutual
def Tq:T→T→List A8→Option (List A8)
 | .int k _,.int k' n,r=>if k=k' then some (.int n::r) else none
 | .bool _,.bool b,r=>some (.bool b::r)
 | .flt k _,.flt k' x,r=>if k=k' then some (.flt x::r) else none
 | .str _,.str s,r=>some (.str s::r)
 | .nil,.nil,r=>some r
 | .opq,.opq,r=>some r
 | .lst _ _,.lst n cs,r=>some (.lst n cs::r)
 | .ref ps,.ref cs,r=>mtTs ps cs r
 | .fn f ps,.fn f' cs,r=>if f=f' then mtTs ps cs r else none
 | _,_,_=>none
def mtTs:List T→List T→List A8→Option (List A8)
 | [],[],r=>some r
 | p::ps,t::ts,r=>match mtTs ps ts r with
   | none=>none
   | some r=>Tq p t r
 | _,_,_=>none
end
mutual
def YZ:T→List A8→Option (T × List A8)
 | .int k _,.int n::r=>some (.int k n,r)
 | .bool _,.bool b::r=>some (.bool b,r)
 | .flt k _,.flt x::r=>some (.flt k x,r)
 | .str _,.str s::r=>some (.str s,r)
 | .nil,r=>some (.nil,r)
 | .opq,r=>some (.opq,r)
 | .lst _ _,.lst n cs::r=>some (.lst n cs,r)
 | .ref ps,r=>match flTs ps r with
   | none=>none
   | some (cs,r)=>some (.ref cs,r)
 | .fn f ps,r=>match flTs ps r with
   | none=>none
   | some (cs,r)=>some (.fn f cs,r)
 | _,_=>none
def flTs:List T→List A8→Option (List T × List A8)
 | [],r=>some ([],r)
 | p::ps,r=>match YZ p r with
   | none=>none
   | some (t,r)=>match flTs ps r with
     | none=>none
     | some (ts,r)=>some (t::ts,r)
end
mutual
theorem Va:∀ {p t:T} {r ls:List A8},Tq p t r=some ls→YZ p ls=some (t,r)
 | .int k _,t,r,ls,h=>by cases t <;>simp[Tq] at h;obtain ⟨rfl,rfl⟩:=h;rfl
 | .bool _,t,r,ls,h=>by cases t <;>simp[Tq] at h;subst h;rfl
 | .flt k _,t,r,ls,h=>by cases t <;>simp[Tq] at h;obtain ⟨rfl,rfl⟩:=h;rfl
 | .str _,t,r,ls,h=>by cases t <;>simp[Tq] at h;subst h;rfl
 | .nil,t,r,ls,h=>by cases t <;>simp[Tq] at h;subst h;rfl
 | .opq,t,r,ls,h=>by cases t <;>simp[Tq] at h;subst h;rfl
 | .lst _ _,t,r,ls,h=>by cases t <;>simp[Tq] at h;subst h;rfl
 | .ref ps,t,r,ls,h=>by
   cases t <;>simp only[Tq] at h <;>try (simp at h;done)
   simp only[YZ,mtTs_fl h]
 | .fn f ps,t,r,ls,h=>by
   cases t <;>simp only[Tq] at h <;>try (simp at h;done)
   split at h
   ·rename_i e;subst e
    simp only[YZ,mtTs_fl h]
   ·simp at h
theorem mtTs_fl:∀ {ps ts:List T} {r ls:List A8},mtTs ps ts r=some ls→flTs ps ls=some (ts,r)
 | [],ts,r,ls,h=>by cases ts <;>simp[mtTs] at h;subst h;rfl
 | p::ps,ts,r,ls,h=>by
   cases ts with
   | nil=>simp[mtTs] at h
   | cons t ts =>
     simp only[mtTs] at h
     split at h
     ·simp at h
     ·rename_i r' h'
      simp only[flTs,Va h,mtTs_fl h']
end
def JH:List (Nat × Nat)→List (Nat × Nat)→Bool
 | [],[]=>true
 | a::as,b::bs=>Nat.beq a.1 b.1&&Nat.beq a.2 b.2&&JH as bs
 | _,_=>false
theorem Mh:∀ {a b:List (Nat × Nat)},JH a b=true→a=b
 | [],[],_=>rfl
 | [],_::_,h=>by simp[JH] at h
 | _::_,[],h=>by simp[JH] at h
 | a::as,b::bs,h=>by
   simp only[JH,zB,Nat.beq_eq] at h
   obtain ⟨⟨h1,h2⟩,h3⟩:=h
   rw[Mh h3,show a=b from Prod.ext h1 h2]
def Ni:C4→C4→Bool
 | [],[]=>true
 | _,_=>false
def TE (p q:AQ) (r:List A8):Option (List A8) :=
 match p.path,q.path with
 | [],[]=>if Nat.beq p.e q.e&&Nat.beq p.c q.c&&Nat.beq p.n q.n&&p.agg==q.agg then some r else none
 | [x],[y]=>if Nat.beq x.1 y.1&&Nat.beq x.2 y.2&&Nat.beq p.c q.c&&Nat.beq p.n q.n&&p.agg==q.agg then some (.nat q.e::r) else none
 | _,_=>none
def UZ (p:AQ) (r:List A8):Option (AQ × List A8) :=
 match p.path,r with
 | [],r=>some (p,r)
 | [x],.nat e::r=>some (⟨[x],e,p.c,p.n,p.agg⟩,r)
 | _,_=>none
theorem Nw {p q:AQ} {r ls:List A8} (h:TE p q r=some ls):UZ p ls=some (q,r):=by
 obtain ⟨pp,pe,pc,pn,pa⟩:=p
 obtain ⟨qp,qe,qc,qn,qa⟩:=q
 unfold TE at h
 simp only at h
 split at h
 ·split at h
  ·rename_i hc
   simp only[zB,Nat.beq_eq,beq_iff_eq] at hc
   obtain ⟨⟨⟨rfl,rfl⟩,rfl⟩,rfl⟩:=hc
   simp only[zS] at h
   subst h;rfl
  ·simp at h
 ·rename_i x y
  split at h
  ·rename_i hc
   simp only[zB,Nat.beq_eq,beq_iff_eq] at hc
   obtain ⟨⟨⟨⟨h1,h2⟩,rfl⟩,rfl⟩,rfl⟩:=hc
   obtain rfl:x=y:=Prod.ext h1 h2
   simp only[zS] at h
   subst h;rfl
  ·simp at h
 ·simp at h
def IC:List (Nat × AQ)→List (Nat × AQ)→List A8→Option (List A8)
 | [],[],r=>some r
 | p::ps,q::qs,r=>match IC ps qs r with
   | none=>none
   | some r=>if Nat.beq p.1 q.1 then TE p.2 q.2 r else none
 | _,_,_=>none
def Nl:List (Nat × AQ)→List A8→Option (List (Nat × AQ) × List A8)
 | [],r=>some ([],r)
 | p::ps,r=>match UZ p.2 r with
   | none=>none
   | some (q,r)=>match Nl ps r with
     | none=>none
     | some (qs,r)=>some ((p.1,q)::qs,r)
theorem My:∀ {ps qs:List (Nat × AQ)} {r ls:List A8},IC ps qs r=some ls→Nl ps ls=some (qs,r)
 | [],[],r,ls,h=>by simp[IC] at h;subst h;rfl
 | [],_::_,_,_,h=>by simp[IC] at h
 | _::_,[],_,_,h=>by simp[IC] at h
 | p::ps,q::qs,r,ls,h=>by
   simp only[IC] at h
   split at h
   ·simp at h
   ·rename_i r' h'
    split at h
    ·rename_i e
     have e:p.1=q.1:=by simpa using e
     simp only[Nl,Nw h,My h',e]
    ·simp at h
def Yo:AA→AA→List A8→Option (List A8)
 | .dead,.dead,r=>some r
 | .und,.und,r=>some r
 | .gone,.gone,r=>some r
 | .val a p cs d pin,.val a' p' cs' d' pin',r=>if a==a'&&pbeqs p p'&&Ni d d'&&Nat.beq pin pin' then mtTs cs cs' r else none
 | .box p cs d pin,.box p' cs' d' pin',r=>if pbeqs p p'&&Ni d d'&&Nat.beq pin pin' then mtTs cs cs' r else none
 | .view k pl,.view k' pl',r=>if Nat.beq k k' then TE pl pl' r else none
 | .ptr k pl,.ptr k' pl',r=>if Nat.beq k k' then TE pl pl' r else none
 | .clo f caps,.clo f' caps',r=>if Nat.beq f f' then IC caps caps' r else none
 | _,_,_=>none
def V6:AA→List A8→Option (AA × List A8)
 | .dead,r=>some (.dead,r)
 | .und,r=>some (.und,r)
 | .gone,r=>some (.gone,r)
 | .val a p cs _ pin,r=>match flTs cs r with
   | none=>none
   | some (cs,r)=>some (.val a p cs [] pin,r)
 | .box p cs _ pin,r=>match flTs cs r with
   | none=>none
   | some (cs,r)=>some (.box p cs [] pin,r)
 | .view k pl,r=>match UZ pl r with
   | none=>none
   | some (pl,r)=>some (.view k pl,r)
 | .ptr k pl,r=>match UZ pl r with
   | none=>none
   | some (pl,r)=>some (.ptr k pl,r)
 | .clo f caps,r=>match Nl caps r with
   | none=>none
   | some (caps,r)=>some (.clo f caps,r)
 | _,_=>none
theorem VD {p s:AA} {r ls:List A8} (h:Yo p s r=some ls):V6 p ls=some (s,r):=by
 unfold Yo at h
 split at h
 ·simp only[zS] at h;subst h;rfl
 ·simp only[zS] at h;subst h;rfl
 ·simp only[zS] at h;subst h;rfl
 ·rename_i a p cs d pin a' p' cs' d' pin'
  split at h
  ·rename_i hc
   simp only[zB,Nat.beq_eq,beq_iff_eq] at hc
   obtain ⟨⟨⟨rfl,h2⟩,h3⟩,rfl⟩:=hc
   obtain rfl:=pbeqs_eq h2
   have:d=[]∧d'=[]:=by cases d <;>cases d' <;>simp[Ni] at h3;exact ⟨rfl,rfl⟩
   obtain ⟨rfl,rfl⟩:=this
   simp only[V6,mtTs_fl h]
  ·simp at h
 ·rename_i p cs d pin p' cs' d' pin'
  split at h
  ·rename_i hc
   simp only[zB,Nat.beq_eq] at hc
   obtain ⟨⟨h2,h3⟩,rfl⟩:=hc
   obtain rfl:=pbeqs_eq h2
   have:d=[]∧d'=[]:=by cases d <;>cases d' <;>simp[Ni] at h3;exact ⟨rfl,rfl⟩
   obtain ⟨rfl,rfl⟩:=this
   simp only[V6,mtTs_fl h]
  ·simp at h
 ·split at h
  ·rename_i hc
   simp only[Nat.beq_eq] at hc
   subst hc
   simp only[V6,Nw h]
  ·simp at h
 ·split at h
  ·rename_i hc
   simp only[Nat.beq_eq] at hc
   subst hc
   simp only[V6,Nw h]
  ·simp at h
 ·split at h
  ·rename_i hc
   simp only[Nat.beq_eq] at hc
   subst hc
   simp only[V6,My h]
  ·simp at h
 ·simp at h
def Lg:List (Nat × AA)→List (Nat × AA)→List A8→Option (List A8)
 | [],[],r=>some r
 | p::ps,q::qs,r=>match Lg ps qs r with
   | none=>none
   | some r=>if Nat.beq p.1 q.1 then Yo p.2 q.2 r else none
 | _,_,_=>none
def Qe:List (Nat × AA)→List A8→Option (List (Nat × AA) × List A8)
 | [],r=>some ([],r)
 | p::ps,r=>match V6 p.2 r with
   | none=>none
   | some (q,r)=>match Qe ps r with
     | none=>none
     | some (qs,r)=>some ((p.1,q)::qs,r)
theorem Od:∀ {ps qs:List (Nat × AA)} {r ls:List A8},Lg ps qs r=some ls→Qe ps ls=some (qs,r)
 | [],[],r,ls,h=>by simp[Lg] at h;subst h;rfl
 | [],_::_,_,_,h=>by simp[Lg] at h
 | _::_,[],_,_,h=>by simp[Lg] at h
 | p::ps,q::qs,r,ls,h=>by
   simp only[Lg] at h
   split at h
   ·simp at h
   ·rename_i r' h'
    split at h
    ·rename_i e
     have e:p.1=q.1:=by simpa using e
     simp only[Qe,VD h,Od h',e]
    ·simp at h
def MT (p σ:AS):Option (List A8):=if Nat.beq p.g σ.g then Lg p.env σ.env [] else none
def Rs (p:AS) (ls:List A8):AS:=match Qe p.env ls with
 | some (env,_)=>⟨env,p.g⟩
 | none=>p
theorem NE {p σ:AS} {ls:List A8} (h:MT p σ=some ls):Rs p ls=σ:=by
 unfold MT at h
 split at h
 ·rename_i e
  have e:p.g=σ.g:=by simpa using e
  unfold Rs
  rw[Od h,e]
 ·simp at h
def Ws (p v:V) (r:List A8):Option (List A8):=if p.agg==v.agg&&pbeqs p.p v.p then mtTs p.cs v.cs r else none
def YT (p:V) (r:List A8):Option (V × List A8):=match flTs p.cs r with
 | none=>none
 | some (cs,r)=>some (⟨p.agg,p.p,cs⟩,r)
theorem QY {p v:V} {r ls:List A8} (h:Ws p v r=some ls):YT p ls=some (v,r):=by
 unfold Ws at h
 split at h
 ·rename_i hc
  simp only[zB,beq_iff_eq] at hc
  obtain ⟨h1,h2⟩:=hc
  unfold YT
  rw[mtTs_fl h]
  obtain ⟨a,b,c⟩:=p
  obtain ⟨a',b',c'⟩:=v
  simp only at h1 h2
  subst h1
  obtain rfl:=pbeqs_eq h2
  rfl
 ·simp at h
def GF:List Ae→List Ae→List A8→Option (List A8)
 | [],[],r=>some r
 | p::ps,q::qs,r=>match GF ps qs r with
   | none=>none
   | some r=>if p.m.beq q.m then Ws p.v q.v r else none
 | _,_,_=>none
def NL:List Ae→List A8→Option (List Ae × List A8)
 | [],r=>some ([],r)
 | p::ps,r=>match YT p.v r with
   | none=>none
   | some (v,r)=>match NL ps r with
     | none=>none
     | some (qs,r)=>some (⟨p.m,v⟩::qs,r)
theorem B4.beq_eq {a b:B4} (h:a.beq b=true):a=b:=by cases a <;>cases b <;>simp[B4.beq] at h <;>rfl
theorem Mp:∀ {ps qs:List Ae} {r ls:List A8},GF ps qs r=some ls→NL ps ls=some (qs,r)
 | [],[],r,ls,h=>by simp[GF] at h;subst h;rfl
 | [],_::_,_,_,h=>by simp[GF] at h
 | _::_,[],_,_,h=>by simp[GF] at h
 | p::ps,q::qs,r,ls,h=>by
   simp only[GF] at h
   split at h
   ·simp at h
   ·rename_i r' h'
    split at h
    ·rename_i e
     have e:=B4.beq_eq e
     simp only[NL,QY h,Mp h',e]
    ·simp at h
def F7 (p:List Ae) (ls:List A8):List Ae:=match NL p ls with
 | some (as,_)=>as
 | none=>p
theorem Uh {p as:List Ae} {ls:List A8} (h:GF p as []=some ls):F7 p ls=as:=by
 unfold F7;rw[Mp h]
def QS:List V→List V→List A8→Option (List A8)
 | [],[],r=>some r
 | p::ps,q::qs,r=>match QS ps qs r with
   | none=>none
   | some r=>Ws p q r
 | _,_,_=>none
def UP:List V→List A8→Option (List V × List A8)
 | [],r=>some ([],r)
 | p::ps,r=>match YT p r with
   | none=>none
   | some (v,r)=>match UP ps r with
     | none=>none
     | some (vs,r)=>some (v::vs,r)
theorem Q7:∀ {ps qs:List V} {r ls:List A8},QS ps qs r=some ls→UP ps ls=some (qs,r)
 | [],[],r,ls,h=>by simp[QS] at h;subst h;rfl
 | [],_::_,_,_,h=>by simp[QS] at h
 | _::_,[],_,_,h=>by simp[QS] at h
 | p::ps,q::qs,r,ls,h=>by
   simp only[QS] at h
   split at h
   ·simp at h
   ·rename_i r' h'
    simp only[UP,QY h,Q7 h']
def KI:List (Option V)→List (Option V)→List A8→Option (List A8)
 | [],[],r=>some r
 | none::ps,none::qs,r=>KI ps qs r
 | some p::ps,some q::qs,r=>match KI ps qs r with
   | none=>none
   | some r=>Ws p q r
 | _,_,_=>none
def RV:List (Option V)→List A8→Option (List (Option V) × List A8)
 | [],r=>some ([],r)
 | none::ps,r=>match RV ps r with
   | none=>none
   | some (vs,r)=>some (none::vs,r)
 | some p::ps,r=>match YT p r with
   | none=>none
   | some (v,r)=>match RV ps r with
     | none=>none
     | some (vs,r)=>some (some v::vs,r)
theorem Nn:∀ {ps qs:List (Option V)} {r ls:List A8},KI ps qs r=some ls→RV ps ls=some (qs,r)
 | [],[],r,ls,h=>by simp[KI] at h;subst h;rfl
 | [],_::_,_,_,h=>by simp[KI] at h
 | none::_,[],_,_,h=>by simp[KI] at h
 | some _::_,[],_,_,h=>by simp[KI] at h
 | none::_,some _::_,_,_,h=>by simp[KI] at h
 | some _::_,none::_,_,_,h=>by simp[KI] at h
 | none::ps,none::qs,r,ls,h=>by
   simp only[KI] at h
   simp only[RV,Nn h]
 | some p::ps,some q::qs,r,ls,h=>by
   simp only[KI] at h
   split at h
   ·simp at h
   ·rename_i r' h'
    simp only[RV,QY h,Nn h']
def Y7 (p v:C8):Option (List A8):=match KI p.outs v.outs [] with
 | none=>none
 | some r=>QS p.rs v.rs r
def YY (p:C8) (ls:List A8):C8:=match UP p.rs ls with
 | none=>p
 | some (rs,r)=>match RV p.outs r with
   | none=>p
   | some (os,_)=>⟨rs,os⟩
theorem Vq {p v:C8} {ls:List A8} (h:Y7 p v=some ls):YY p ls=v:=by
 unfold Y7 at h
 split at h
 ·simp at h
 ·rename_i r hr
  unfold YY
  rw[Q7 h]
  simp only[Nn hr]
end Go.Desk
end
section
namespace Go.Desk
open Go Go.ChangeShapes Go.RowKit
inductive Da (E:Aj):List Nat→List Ae→Prop
 | nil:Da E [] []
 | cons {t tys d ts as} (hd:E.ty t=some d) (hw:WT E t ts) (r:Da E tys as):Da E (t::tys) (⟨.val,⟨d.agg,shares d.own,ts⟩⟩::as)
section
variable {P:Program} {E:Aj} {w:World} {H:Type} {enc:TypeId × Value→H}
theorem NH {t:Nat} {d:TD} (hT:HZ P E t d) {n:Nat} (hp:CL E n t=true) (hd:E.ty t=some d) {r:Reach} {base:Nat} {v:Value} (h:Value.okWide P w r base t v):AE d.agg v v.cells.toList:=by
 cases n with
 | zero=>simp[CL] at hp
 | succ n =>
   simp only[CL,hd,zB] at hp
   obtain ⟨-,hk⟩:=hp
   obtain ⟨u,hu,hkd,hag⟩:=hT.und
   unfold Gh at hkd
   cases hkk:d.kd with
   | int k =>
     simp only[hkk] at hkd
     subst hkd
     simp only[Value.okWide,hu,Cell.okWide] at h
     rw[← hag]
     cases v <;>simp_all [Cell.ok,ES,AE,Value.cells]
   | flt k =>
     simp only[hkk] at hkd
     subst hkd
     simp only[Value.okWide,hu,Cell.okWide] at h
     rw[← hag]
     cases v <;>simp_all [Cell.ok,ES,AE,Value.cells]
   | bool =>
     simp only[hkk] at hkd
     subst hkd
     simp only[Value.okWide,hu,Cell.okWide] at h
     rw[← hag]
     cases v <;>simp_all [Cell.ok,ES,AE,Value.cells]
   | str =>
     simp only[hkk] at hkd
     subst hkd
     simp only[Value.okWide,hu,Cell.okWide] at h
     rw[← hag]
     cases v <;>simp_all [Cell.ok,ES,AE,Value.cells]
   | slc e =>
     simp only[hkk] at hkd
     obtain ⟨rfl,-⟩:=hkd
     simp only[Value.okWide,hu,Cell.okWide] at h
     rw[← hag]
     cases v <;>simp_all [Cell.ok,ES,AE,Value.cells]
   | st fs =>
     simp only[hkk] at hkd
     obtain ⟨fields,rfl,-⟩:=hkd
     simp only[Value.okWide,hu] at h
     obtain ⟨cs,rfl,-⟩:=h
     rw[← hag]
     simp[ES,AE,Value.cells]
   | ptr e=>simp[hkk] at hk
   | other=>simp[hkk] at hk
theorem Of (hE:Cv P E) {N:Nat} {r:Reach} {base:Nat}:∀ {tys:List Nat} {args:List Value} {ds:List (DataW H)} {p:List MemPlace},DataW.TrodAll enc P w 0 (fun _=>true) true tys args ds p→(tys.all fun t=>CL E N t)=true →
  (∀ (j:Nat) t v,tys[j]?=some t→args[j]?=some v→Value.okWide P w r base t v)→∃ as,Da E tys as∧DX w (fun b=>b<w.heap.size) as args []
 | [],args,ds,p,h,_,_=>by
   cases args <;>cases ds <;>simp[DataW.TrodAll] at h
   exact ⟨[],.nil,.nil⟩
 | t::tys,args,ds,p,h,hp,hv=>by
   obtain ⟨v,vs,d,ds',p1,q1,rfl,rfl,rfl,h1,h2⟩:=trodAll_cons h
   simp only[all_cons,zB] at hp
   obtain ⟨as,a1,a2⟩:=Of hE h2 hp.2 (fun j t v h3 h4=>hv (j+1) t v (by simpa using h3) (by simpa using h4))
   have hp1:=hp.1
   obtain ⟨td,htd⟩:∃ td,E.ty t=some td:=by
    cases N with
    | zero=>simp[CL] at hp1
    | succ n =>
      simp only[CL] at hp1
      cases ht:E.ty t with
      | none=>simp[ht] at hp1
      | some td=>exact ⟨td,rfl⟩
   obtain ⟨fuel,hf⟩:=h1
   obtain ⟨ts,hR,hW⟩:=Vb (Fz:=fun b=>b<w.heap.size) hE (fun _ h=>h) htd hp1 hf
   exact ⟨_,.cons htd hW a1,.val (v:=⟨td.agg,shares td.own,ts⟩) (NH (hE t td htd) hp1 htd (hv 0 t v rfl rfl)) hR a2⟩
theorem Hk (hl:laidOutB P=true) {W W':World} (bel:Below W.heap.size W W'):∀ {tys:List Nat} {args:List Value} {ds:List (DataW H)} {p:List MemPlace},(tys.all fun t=>P.readableRec t&&decide (t<P.types.size))=true →
  DataW.TrodAll enc P W 0 (fun _=>true) true tys args ds p→DataW.TrodAll enc P W' 0 (fun b=>decide (b<W.heap.size)) true tys args ds p
 | [],args,ds,p,_,h=>by
   cases args <;>cases ds <;>simp[DataW.TrodAll] at h ⊢
   exact h
 | t::tys,args,ds,p,hr,h=>by
   obtain ⟨v,vs,d,ds',p1,q1,rfl,rfl,rfl,h1,h2⟩:=trodAll_cons h
   simp only[all_cons,zB,decide_eq_true_eq] at hr
   have lt:∀ x∈p1,x.block<W.heap.size:=by
    obtain ⟨m,hm⟩:=h1
    exact DataW.trod_lt m _ _ _ hm
   exact trodAll_cons_mk (Below.trod hl hr.1.1 hr.1.2 h1 bel lt) (Hk hl bel hr.2 h2)
theorem KA {b:Nat} {sp:Nat→Bool} {hd:Bool}:∀ {tys:List Nat} {args:List Value} {ds:List (DataW H)} {p:List MemPlace},DataW.TrodAll enc P w b sp hd tys args ds p→ds.length=tys.length
 | [],args,ds,p,h=>by
   cases args <;>cases ds <;>simp[DataW.TrodAll] at h
   rfl
 | t::tys,args,ds,p,h=>by
   obtain ⟨v,vs,d,ds',p1,q1,rfl,rfl,rfl,h1,h2⟩:=trodAll_cons h
   simp[KA h2]
theorem law_contract {f:Nat} {fn:Func} {s:ChangeSpec} {tb:Nat} {c:Code} (hm:P.follows .mixedOrders=true) (hE:Cv P E) (hT:∀ f fd,E.fn f=some fd→Hw P E f fd)
  (hf : P.funcs[f]? = some fn) (hname : (fn.name == "runtime.NumGoroutine") = false) (hb : fn.body = some c) (hres : fn.resultTypes = #[tb]) (htb : P.underlying tb = some .bool) (hvars : s.vars = [])
  (hspec:∀ ds:List (DataW H),ds.length=fn.params.toList.length→s.fn H ds = { results:=[.lit (.bool true)],args:=ds }) (hl:laidOutB P=true) {N:Nat} (hp:(fn.params.toList.all fun t=>CL E N t)=true)
  (hr:(fn.params.toList.all fun t=>P.readableRec t&&decide (t<P.types.size))=true)
  (law:∀ as,Da E fn.params.toList as→∃ N os,AZ E N f as=some ⟨[⟨false,[.leaf],[.bool true]⟩],os⟩)
  {W:World} {base:Nat} {args:Array Value} {ds gs:List (DataW H)} {before:List MemPlace} (hval:∀ (j:Nat) t v,fn.params[j]?=some t→args[j]?=some v→Value.okWide P W .any base t v)
  (hW:DataW.Whole enc P fn.params.toList s.vars false W args.toList ds gs before) :
  Calls P f args W fun e W'=>∃ v,e = .returned v∧s.post enc P fn false true false false W args v W' :=by
 have hW' :=hW
 obtain ⟨p,q,hA,hV,rfl,hfz,hnd⟩:=hW
 rw[hvars] at hV
 obtain ⟨rfl,rfl⟩:=trodVars_none hV
 obtain ⟨as,hlaw,hargs⟩:=Of (r:=.any) (base:=base) hE hA hp (fun j t v h1 h2=>hval j t v (by simpa using h1) (by simpa using h2))
 obtain ⟨n,os,hev⟩:=law as hlaw
 have hok:=R5 hm hE hT n f as _ hev W (fun b=>b<W.heap.size) args.toList [] hargs (by simp) (fun _ h=>h)
 have hrun:(callFunc f args.toList.toArray).run P W = .ok (.enter f args.toList.toArray) W:=by
  have h1 : fn.name ≠ "runtime.NumGoroutine" := by simpa using hname
  simp[callFunc,hf,h1,hb]
 rcases hok with ⟨v,w',h1,-⟩ | ⟨-,hc⟩
 ·rw[hrun] at h1;simp at h1
 ·have ea:args.toList.toArray=args:=by simp
  rw[ea] at hc
  refine hc.mono fun e w' he => ?_
  cases e with
  | returned v =>
    obtain ⟨hx,Lt,g,fr,fo,hR,hO,-⟩:=he
    refine ⟨v,rfl,?_⟩
    obtain ⟨xs,hRs,hxs⟩:=hR
    simp only at hxs
    subst hxs
    cases hRs with
    | cons hcells hR1 hr1 =>
      have:=Ap hcells
      subst this
      cases hR1 with
      | leaf hl1 _ =>
        simp only[AJ] at hl1
        subst hl1
        have bel:Below W.heap.size W w' :=hx.below (by simp[Mut]) (Nat.le_refl _)
        rw[hvars] at hW'
        have hlen:=KA hA
        have hs:=hspec ds hlen
        refine ⟨ds,[],p++[],[],p,[],by rw[hvars];exact hW',?_,?_,?_,bel.frame _,fun h=>by cases h⟩
        ·rw[append_nil,hs,hres]
         exact trodAll_mk1 (shut_bool htb true)
        ·rw[append_nil,hs]
         exact Hk hl bel hr hA
        ·rw[hvars,append_nil,hs];rfl
  | panicked chain=>exact he.elim
  | outgrown=>exact he.elim
end
def Tf:T→T→Bool
 | .int k n,.int k' n'=>k==k'&&n==n'
 | .bool b,.bool b'=>b==b'
 | .flt k x,.flt k' x'=>k==k'&&x==x'
 | .str [],.str []=>true
 | .nil,.nil=>true
 | .lst 0 [],.lst 0 []=>true
 | _,_=>false
theorem Tu {a b:T} (h:Tf a b=true):a=b:=by
 unfold Tf at h
 split at h <;>simp_all
def Jp:List T→List T→Bool
 | [],[]=>true
 | a::as,b::bs=>Tf a b&&Jp as bs
 | _,_=>false
theorem M5:∀ {a b:List T},Jp a b=true→a=b
 | [],[],_=>rfl
 | [],_::_,h=>by simp[Jp] at h
 | _::_,[],h=>by simp[Jp] at h
 | a::as,b::bs,h=>by
   simp only[Jp,zB] at h
   rw[Tu h.1,M5 h.2]
def Yn (E:Aj) (d:TD) (u:TypeDesc):Bool:=match d.kd,u with
 | .int k,.int k'=>k==k'
 | .flt k,.float k'=>k==k'
 | .bool,.bool=>true
 | .str,.string=>true
 | .slc e,.slice e'=>Nat.beq e e'&&match E.ty e with
   | some de=>pbeqs d.own [.sl .own de.own]
   | none=>false
 | .ptr e,.pointer e'=>Nat.beq e e'
 | .st fs,.struct fields=>JH (fields.toList.map fun f=>(f.offset,f.type)) fs
 | .other,_=>true
 | _,_=>false
theorem WM {E:Aj} {d:TD} {u:TypeDesc} (h:Yn E d u=true):Gh E d u:=by
 unfold Yn at h
 unfold Gh
 split at h
 ·rename_i hk;simp only[hk];simp_all
 ·rename_i hk;simp only[hk];simp_all
 ·rename_i hk;simp only[hk]
 ·rename_i hk;simp only[hk]
 ·rename_i e e' hk
  simp only[hk]
  simp only[zB,Nat.beq_eq] at h
  obtain ⟨rfl,h⟩:=h
  refine ⟨rfl,?_⟩
  split at h
  ·rename_i de hde
   exact ⟨de,hde,pbeqs_eq h⟩
  ·simp at h
 ·rename_i e e' hk;simp only[hk];simp_all
 ·rename_i fs fields hk
  simp only[hk]
  exact ⟨fields,rfl,Mh h⟩
 ·rename_i hk;simp only[hk]
 ·simp at h
def Yi (P:Program) (E:Aj) (t:Nat) (d:TD):Bool :=
 (match P.info? t with
 | some i=>Nat.beq i.size d.sz&&Nat.beq i.bytes d.bytes&&(match i.zero with
   | some z=>(match DW z.cells.toList with
     | some ts=>Jp ts d.zero
     | none=>false)&&(match d.agg,z with
       | true,.agg _=>true
       | false,z=>z.oneCell'
       | _,_=>false)
   | none=>false)
 | none=>false)&&Ge d.own d.zero&&Nat.beq d.own.length d.sz&&Nat.blt 0 d.sz&&(match P.underlying t with
 | some u=>Yn E d u&&(ES u==d.agg)&&(match u with
   | .struct fields=>fields.toList.all fun f=>(P.info? f.type).isSome
   | _=>true)
 | none=>false)
theorem VJ {P:Program} {E:Aj} {t:Nat} {d:TD} (h:Yi P E t d=true):HZ P E t d:=by
 unfold Yi at h
 simp only[zB,Nat.beq_eq] at h
 obtain ⟨⟨⟨⟨h1,h2⟩,h3⟩,h4⟩,h5⟩:=h
 refine ⟨?_,h2,h3,by simpa using h4,?_,?_⟩
 ·split at h1
  ·rename_i i hi
   simp only[zB,Nat.beq_eq] at h1
   obtain ⟨⟨a1,a2⟩,a3⟩:=h1
   split at a3
   ·rename_i z hz
    simp only[zB] at a3
    obtain ⟨b1,b2⟩:=a3
    split at b1
    ·rename_i ts hts
     refine ⟨i,z,hi,a1,a2,hz,by rw[hts,M5 b1],?_⟩
     split at b2
     ·rename_i cs hag;rw[hag];exact ⟨cs,rfl⟩
     ·rename_i z' hag;rw[hag];exact MX b2
     ·simp at b2
    ·simp at b1
   ·simp at a3
  ·simp at h1
 ·split at h5
  ·rename_i u hu
   simp only[zB,beq_iff_eq] at h5
   exact ⟨u,hu,WM h5.1.1,h5.1.2⟩
  ·simp at h5
 ·intro fields hu f hf
  rw[hu] at h5
  simp only[zB,all_eq_true] at h5
  exact h5.2 f hf
def M0:List (Nat × TD)→Nat→Option TD
 | [],_=>none
 | (i,d)::r,t=>match Nat.beq i t with
   | true=>some d
   | false=>M0 r t
def Lh:List (Nat × FD)→Nat→Option FD
 | [],_=>none
 | (i,d)::r,t=>match Nat.beq i t with
   | true=>some d
   | false=>Lh r t
theorem RC {l:List (Nat × TD)} {t:Nat} {d:TD} (h:M0 l t=some d):(t,d)∈l:=by
 induction l with
 | nil=>simp[M0] at h
 | cons x l ih =>
   obtain ⟨i,d'⟩:=x
   simp only[M0] at h
   split at h
   ·rename_i e
    have e:i=t:=by simpa using e
    simp only[zS] at h
    subst e h;simp
   ·exact mem_cons_of_mem _ (ih h)
theorem Sf {P:Program} {E:Aj} {l:List (Nat × TD)} (hE:∀ t,E.ty t=M0 l t) (h:(l.all fun x=>Yi P E x.1 x.2)=true):Cv P E:=by
 intro t d ht
 rw[hE] at ht
 rw[all_eq_true] at h
 exact VJ (h _ (RC ht))
inductive L0 (P:Program) (E:Aj):List (Nat × FD)→Prop
 | nil:L0 P E []
 | cons {f fd l} (h:Hw P E f fd) (t:L0 P E l):L0 P E ((f,fd)::l)
theorem S9 {P:Program} {E:Aj} {l:List (Nat × FD)} (hE:∀ f,E.fn f=Lh l f) (h:L0 P E l):∀ f fd,E.fn f=some fd→Hw P E f fd:=by
 intro f fd hf
 rw[hE] at hf
 clear hE
 induction h with
 | nil=>simp[Lh] at hf
 | cons h t ih =>
   simp only[Lh] at hf
   split at hf
   ·rename_i e
    have e:=Nat.beq_eq.mp e
    simp only[zS] at hf
    subst e hf;exact h
   ·exact ih hf
theorem Pt {P : Program} {E : Aj} {f : Nat} {fn : Func} {c : Code} {modes : List B4} {outs : List Nat} {results : List (Nat × Option (Bool × Nat))} {keep : List (Nat × List Nat)} (hf : P.funcs[f]? = some fn) (hn : (fn.name == "runtime.NumGoroutine") = false) (hb : fn.body = some c)
  (h:Qd E fn c modes outs results=true):Hw P E f (.code c modes outs results keep):=⟨fn,hf,hn,hb,h⟩
def H4:List Pm→List T→List (Nat × Nat)→Option (Bool × List Pm × List T)
 | ps,cs,[]=>some (true,ps,cs)
 | ps,cs,(e,c)::path=>match ps[c]? with
   | some (.sl .own el)=>match H4 el (EN cs (ix ps.length e c)) path with
     | none=>none
     | some (g,r)=>some (g&&Ag [.lst] cs (ix ps.length e c),r)
   | _=>none
def E0 (ps:List Pm) (cs:List T):List (Nat × Nat)→Option (Bool × List Pm × List T)
 | []=>some (true,ps,cs)
 | (e,c)::path=>match ps[c]? with
   | some (.sl .own el)=>match cs[ix ps.length e c]? with
     | some (.lst _ cs')=>H4 el cs' path
     | _=>none
   | _=>none
def EA (ks:List CK) (ps:List Pm) (cs:List T) (pl:AQ):Option (Bool × V) :=
 match pl.path with
 | []=>match atPlace ps cs pl with
   | none=>none
   | some v=>some (true,v)
 | path=>match E0 ps cs path with
   | none=>none
   | some (g,el,rcs)=>match Nat.beq ks.length pl.n with
     | false=>none
     | true=>match Bx el pl.c pl.n with
       | none=>none
       | some p=>some (g&&Ag ks rcs (ix el.length pl.e pl.c),⟨pl.agg,p,Ik ks rcs (ix el.length pl.e pl.c)⟩)
def HT (E:Aj) (t:Nat):Option (List CK):=match E.ty t with
 | none=>none
 | some d=>some (d.zero.map Wn)
def Vr (E:Aj) (ty:Nat) (r:Ro):Option (Bool × Option V) :=
 match r with
 | .slot _ (.view _ pl) root=>match root.root with
   | none=>some (true,none)
   | some (p,cs,d)=>match DR d pl with
     | true=>some (true,none)
     | false=>match HT E ty with
       | none=>none
       | some ks=>match EA ks p cs pl with
         | none=>none
         | some (g,v)=>some (g,some v)
 | r=>some (true,Aa E ty r)
def Uw {β:Type} (E:Aj) (ty:Nat) (r:Ro) (k:V→Option β):Option β:=match Vr E ty r with
 | some (g,some v)=>gd g (k v)
 | _=>none
def EM {β:Type} (E:Aj) (ty:Nat) (r:Ro) (k:T→Option β):Option β:=Uw E ty r fun v=>match v with
 | ⟨false,[.leaf],[t]⟩=>k t
 | _=>none
def E9 (k:FloatKind) (x y:Nat):Nat:=match k.format.add x y with
 | some b=>b
 | none=>F8 k
def E8 (k:FloatKind) (x y:Nat):Nat:=match k.format.sub x y with
 | some b=>b
 | none=>F8 k
def Co (k:FloatKind) (x y:Nat):Nat:=match k.format.mul x y with
 | some b=>b
 | none=>F8 k
def fdiv (k:FloatKind) (x y:Nat):Nat:=match k.format.div x y with
 | some b=>b
 | none=>F8 k
def Pj (k:FloatKind) (x y:Nat):Bool:=k.format.order x y==some .eq
def SE (k:FloatKind) (x y:Nat):Bool:=k.format.order x y != some .eq
def flt (k:FloatKind) (x y:Nat):Bool:=k.format.order x y==some .lt
def UE (k:FloatKind) (x y:Nat):Bool:=k.format.order x y==some .lt||k.format.order x y==some .eq
def Qy (k:FloatKind) (x y:Nat):Bool:=k.format.order x y==some .gt
def Su (k:FloatKind) (x y:Nat):Bool:=k.format.order x y==some .gt||k.format.order x y==some .eq
def ZS (m:Bool) (k:FloatKind) (x y:Nat):Nat:=match k.format.order x y with
 | none=>F8 k
 | some .lt=>if m then y else x
 | some .gt=>if m then x else y
 | some .eq=>if (k.decode x).neg==m then y else x
def Vd (op:BinOp) (k:FloatKind) (x y:Nat):Option T:=match op with
 | .add=>some (.flt k (E9 k x y))
 | .sub=>some (.flt k (E8 k x y))
 | .mul=>some (.flt k (Co k x y))
 | .quo=>some (.flt k (fdiv k x y))
 | .eql=>some (.bool (Pj k x y))
 | .neq=>some (.bool (SE k x y))
 | .lss=>some (.bool (flt k x y))
 | .leq=>some (.bool (UE k x y))
 | .gtr=>some (.bool (Qy k x y))
 | .geq=>some (.bool (Su k x y))
 | _=>none
def Wc (x:Option T):Option (Bool × T):=match x with
 | none=>none
 | some t=>some (true,t)
def VC (op:BinOp):T→T→Option (Bool × T)
 | .int k x,.int k' y=>match op with
   | .shl=>some (decide (0≤y),.int k (k.wrap (x * 2 ^ min y.toNat k.bits)))
   | .shr=>some (decide (0≤y),.int k (x.fdiv (2 ^ min y.toNat k.bits)))
   | .quo=>if k=k' then some (!decide (y=0),.int k (k.wrap (x.tdiv y))) else none
   | .rem=>if k=k' then some (!decide (y=0),.int k (x.tmod y)) else none
   | op=>Wc (Bq op (.int k x) (.int k' y))
 | .flt k x,.flt k' y=>if k=k' then Wc (Vd op k x y) else none
 | .str a,.str b=>match op with
   | .add=>some (decide (a.length+b.length≤4611686018427387904),.str (a++b))
   | op=>Wc (Bq op (.str a) (.str b))
 | u,v=>Wc (Bq op u v)
def Tb {β:Type} (kd:Kd) (u:T) (k:T→Option β):Option β:=match kd,u with
 | .int k',.flt s x=>bd (F2 s x k') fun n=>k (.int k' n)
 | .flt k',.flt s x=>bd (CE s x k') fun y=>k (.flt k' y)
 | kd,u=>match Ju kd u with
   | none=>none
   | some t=>k t
def Nz (m:Bool):T→T→Option T
 | .flt k x,.flt k' y=>if k=k' then some (.flt k (ZS m k x y)) else none
 | u,v=>IB m u v
def G2 (m:Bool) (t:T):List T→Option T
 | []=>some t
 | u::us=>match Nz m t u with
   | none=>none
   | some r=>G2 m r us
def FU (o:Oper) (t:T):Bb:=⟨AO o (.val false [.leaf] [t] [] 0),none⟩
structure BZ where
 cf : {β:Type}→Nat→List Ae→(C8→Option β)→Option β
 lp : {β:Type}→Nat→AS→(Ex→AS→Option β)→Option β
def fall {β:Type} (x:Option (Bb × Bool)) (k:Bb→Bool→Option β):Option β:=match x with
 | none=>none
 | some (out,u)=>k out u
def JC {β:Type} (x:Option Bb) (u:Bool) (k:Bb→Bool→Option β):Option β:=match x with
 | none=>none
 | some out=>k out u
def TQ {β:Type} (E:Aj) (o:Oper) (t:Nat) (r:Ro) (k:Bb→Bool→Option β):Option β :=
 match E.ty t with
 | none=>none
 | some d=>match BO r with
   | some (j,pl,root)=>match root.root with
     | none=>none
     | some (p,cs,_)=>match EA (d.zero.map Wn) p cs { pl with n:=d.sz,agg:=d.agg } with
       | none=>none
       | some (g,v)=>gd g (if noOwns v.p then k ⟨AO o (UK v),none⟩ false else k ⟨AO o (.view j { pl with n:=d.sz,agg:=d.agg }),none⟩ false)
   | none=>JC (FV E o t r) false k
def Qc {β:Type} (E:Aj) (o:Oper) (s:Nat) (r:Ro) (f:Nat) (k:Bb→Bool→Option β):Option β :=
 match r with
 | .slot _ (.view j pl) _=>match pl.path with
   | []=>JC (GG E o s r f) false k
   | _=>match E.ty s with
     | none=>none
     | some d=>match d.kd with
       | .st fs=>match fs[f]? with
         | none=>none
         | some (off,ty)=>match E.ty ty with
           | none=>none
           | some d'=>Uw E s r fun v=>match v.agg with
             | false=>none
             | true=>match Bx v.p off d'.sz with
               | none=>none
               | some p=>match C3 v.cs off d'.sz with
                 | none=>none
                 | some c=>if noOwns p then k ⟨AO o (.val d'.agg p c [] 0),none⟩ false else k ⟨AO o (.view j { pl with c:=pl.c+off,n:=d'.sz,agg:=d'.agg }),none⟩ false
       | _=>none
 | r=>JC (GG E o s r f) false k
def Mm (E:Aj) (t:Nat):Option (List CK):=match E.ty t with
 | none=>none
 | some d=>match d.kd with
   | .slc e=>HT E e
   | _=>none
def H1 {β:Type} (E:Aj) (g:Nat) (o:Oper) (t:Nat) (r ri:Ro) (iTy:Nat) (k:Bb→Bool→Option β):Option β :=
 EM E iTy ri fun ti=>match ti with
 | .int _ i=>Uw E t r fun v=>match v with
   | ⟨false,[.sl fl el],[.lst n cs]⟩=>match EI E t el.length&&fl.live g with
     | false=>none
     | true=>match fl with
       | .own=>match r with
         | .slot _ (.view j pl) _=>gd (decide (0≤i∧i<(n:Int))) (k ⟨AO o (.ptr j ⟨pl.path++[(pl.e,pl.c)],i.toNat,0,el.length,false⟩),none⟩ true)
         | .slot j _ _=>gd (decide (0≤i∧i<(n:Int))) (k ⟨AO o (.ptr j ⟨[(0,0)],i.toNat,0,el.length,false⟩),none⟩ true)
         | _=>none
       | fl=>match Mm E t with
         | none=>none
         | some ks=>match Nat.beq ks.length el.length with
           | false=>none
           | true=>gd (decide (0≤i∧i<(n:Int))&&Ag ks cs (ix el.length i.toNat 0)) (k ⟨AO o (.val false [.rf fl el] [.ref (Ik ks cs (ix el.length i.toNat 0))] [] 0),none⟩ true)
   | _=>none
 | _=>none
def Td (s:List UInt8) (j:Nat):Int:=match s[j]? with
 | some b=>b.toNat
 | none=>0
def QR {β:Type} (E:Aj) (o:Oper) (t:Nat) (r ri:Ro) (iTy:Nat) (k:Bb→Bool→Option β):Option β :=
 EM E iTy ri fun ti=>match ti with
 | .int _ i=>EM E t r fun ts=>match ts with
   | .str s=>match Iq E t with
     | false=>none
     | true=>gd (decide (0≤i∧i<(s.length:Int))) (k (FU o (.int .u8 (Td s i.toNat))) false)
   | _=>none
 | _=>none
def IJ {β:Type} (E:Aj) (o:Oper) (t:Nat) (l:Ro) (lTy:Nat) (k:Bb→Bool→Option β):Option β :=
 match E.ty t with
 | some d=>match d.kd with
   | .slc e=>match E.ty e with
     | none=>none
     | some de=>EM E lTy l fun tl=>match tl with
       | .int .i64 n=>match Nat.ble de.bytes 1024 with
         | false=>none
         | true=>gd (decide (0≤n∧n≤(lim:Int))) (k ⟨AO o (.val false [.sl .own de.own] [.lst n.toNat (reps n.toNat de.zero)] [] 0),none⟩ false)
       | _=>none
   | _=>none
 | none=>none
def Jj {β:Type} (E:Aj) (ty:Nat) (d:Int) (r:Option Ro) (k:Int→Option β):Option β:=match r with
 | none=>k d
 | some r=>EM E ty r fun t=>match t with
   | .int _ n=>k n
   | _=>none
def JO {β:Type} (E:Aj) (o:Oper) (t:Nat) (r:Ro) (lo hi:Option Ro) (iTy:Nat) (g:Nat) (k:Bb→Bool→Option β):Option β :=
 Uw E t r fun v=>match v with
 | ⟨false,[.leaf],[.str s]⟩=>Jj E iTy 0 lo fun l=>Jj E iTy s.length hi fun h=>match Iq E t with
   | false=>none
   | true=>gd (decide (0≤l∧l≤h∧h≤(s.length:Int))) (k ⟨AO o (.val false [.leaf] [.str ((s.drop l.toNat).take (h.toNat - l.toNat))] [] 0),none⟩ true)
 | ⟨false,[.sl fl el],[.lst n cs]⟩=>Jj E iTy 0 lo fun l=>Jj E iTy n hi fun h=>match EI E t el.length&&fl.live g with
   | false=>none
   | true=>gd (decide (0≤l∧l≤h∧h≤(n:Int))) (
      let c:T:=.lst (h.toNat - l.toNat) ((cs.drop (ix el.length l.toNat 0)).take (ix el.length (h.toNat - l.toNat) 0))
      match fl with
      | .shr=>k ⟨AO o (.val false [.sl .shr el] [c] [] 0),none⟩ true
      | .lent g'=>k ⟨AO o (.val false [.sl (.lent g') el] [c] [] 0),none⟩ true
      | .own=>match noOwns el || !A6 el with
        | true=>k ⟨AO o (.val false [.sl (.lent g) (lentifies g el)] [c] [] 0),none⟩ true
        | false=>match r with
          | .slot _ (.view kk pl) root=>match pl.path with
            | []=>match root.root with
              | none=>none
              | some (p,rcs,d)=>k ⟨AO o (.val false [.mv g el] [c] [] 0)++[(kk,root.withRoot p (AT rcs (ix p.length pl.e pl.c) [.lst n (Cm el l.toNat (h.toNat - l.toNat) cs)]) (([pl.c],0,el.length)::d))],none⟩ true
            | _=>none
          | _=>none)
 | _=>none
def VP {β:Type} (E:Aj) (g:Nat) (o:Oper) (t:Nat) (r:Ro) (k:Bb→Bool→Option β):Option β :=
 Uw E t r fun v=>match v with
 | ⟨false,[.leaf],[.str s]⟩=>if Iq E t then k (FU o (.int .i64 s.length)) true else none
 | ⟨false,[.sl fl el],[.lst n _]⟩=>if EI E t el.length&&fl.live g then k (FU o (.int .i64 n)) true else none
 | _=>none
def KS (f:List T→List T):List Pm→List T→List (Nat × Nat)→List T
 | _,cs,[]=>f cs
 | ps,cs,(e,c)::path=>match ps[c]? with
   | some (.sl .own el)=>cs.set (ix ps.length e c) (.lst (EF cs (ix ps.length e c)) (KS f el (EN cs (ix ps.length e c)) path))
   | _=>cs
def GB (f:List T→List T) (ps:List Pm) (cs:List T):List (Nat × Nat)→List T
 | []=>f cs
 | (e,c)::path=>match ps[c]? with
   | some (.sl .own el)=>match cs[ix ps.length e c]? with
     | some (.lst n cs')=>cs.set (ix ps.length e c) (.lst n (KS f el cs' path))
     | _=>cs
   | _=>cs
def Xz {β:Type} (b:Option Bool) (x:Option β):Option β:=match b with
 | none=>x
 | some b=>gd b x
def UW (a b:Option Bool):Option Bool:=match a with
 | none=>b
 | some x=>match b with
   | none=>some x
   | some y=>some (x&&y)
def Gs (root:AA) (pl:AQ) (hs:List T) (n:Nat):Option (Bool × AA) :=
 match root.root with
 | none=>none
 | some (p,cs,d)=>match E0 p cs pl.path with
   | none=>none
   | some (g,el,_)=>some (g,root.withRoot p (GB (fun rcs=>AT rcs (ix el.length pl.e pl.c) hs) p cs pl.path) ((E6 pl.path,pl.c,n)::d))
def LF (E:Aj) (g:Nat) (ty:Nat) (r:Ro):Option (Option Bool × V × List (Nat × AA)) :=
 match r with
 | .slot t (.view j pl) root=>match pl.path with
   | []=>match GZ E g ty (.slot t (.view j pl) root) with
     | none=>none
     | some (v,us)=>some (none,v,us)
   | _=>match Nat.ble pl.n 0 with
     | true=>none
     | false=>match Vr E ty (.slot t (.view j pl) root) with
       | some (gg,some v)=>match A1 g v.p with
         | false=>none
         | true=>match noOwns v.p with
           | true=>none
           | false=>match CU v.p v.cs with
             | none=>none
             | some hs=>match Gs root pl hs pl.n with
               | none=>none
               | some (g2,s)=>some (some (gg&&g2),v,[(j,s)])
       | _=>none
 | r=>match GZ E g ty r with
   | none=>none
   | some (v,us)=>some (none,v,us)
def Er (E:Aj) (g:Nat) (tys:Nat→Option Nat):List (Nat × Ro)→Option (Option Bool × List (Nat × V) × List (Nat × AA))
 | []=>some (none,[],[])
 | (i,r)::rest=>match tys i with
   | none=>none
   | some ty=>match LF E g ty r with
     | none=>none
     | some (gg,v,u)=>match Er E g tys rest with
       | none=>none
       | some (g2,vs,us)=>some (UW gg g2,(i,v)::vs,u++us)
def Gl {β:Type} (E:Aj) (g:Nat) (o:Oper) (t len:Nat) (parts:List (Nat × Ro)) (k:Bb→Bool→Option β):Option β :=
 match E.ty t with
 | some d=>match d.kd with
   | .slc e=>match E.ty e with
     | none=>none
     | some de=>if Nat.ble (len * de.sz) 65536 then (match Er E g (fun _=>some e) parts with
       | none=>none
       | some (gg,vs,us)=>match Mg (EQ de.own vs) (fun i=>some (i * de.sz,de.sz)) (reps len de.zero) vs with
         | none=>none
         | some cs=>if Bv (us.map (·.1)) then Xz gg (k ⟨AO o (.val false [.sl .own (EQ de.own vs)] [.lst len cs] [] 0)++us,none⟩ true) else none) else none
   | _=>none
 | none=>none
def JQ (E:Aj) (t1:Nat) (s:Ro):Option (Option Bool × Nat × List T × List Pm × List (Nat × AA)) :=
 match s with
 | .slot t (.view j pl) root=>match pl.path with
   | []=>match Ev E t1 (.slot t (.view j pl) root) with
     | none=>none
     | some r=>some (none,r)
   | _=>match root.pinned with
     | true=>none
     | false=>match Vr E t1 (.slot t (.view j pl) root) with
       | some (gg,some ⟨false,[.sl .own el],[.lst n cs]⟩)=>match Gs root pl [.nil] 1 with
         | none=>none
         | some (g2,s)=>some (some (gg&&g2),n,cs,el,[(j,s)])
       | _=>none
 | s=>match Ev E t1 s with
   | none=>none
   | some r=>some (none,r)
def JL (E:Aj) (g t2:Nat) (x:Ro):Option (Bool × Nat × List T × List Pm × List (Nat × AA)) :=
 match x with
 | .slot t (.view j pl) root=>match pl.path with
   | []=>match Et E g t2 (.slot t (.view j pl) root) with
     | none=>none
     | some r=>some (true,r)
   | _=>match Vr E t2 (.slot t (.view j pl) root) with
     | some (gg,some ⟨false,[.sl fl el],[.lst m cs]⟩)=>if EI E t2 el.length∧fl.live g then (if noOwns el then some (gg,m,cs,el,[]) else none) else none
     | _=>none
 | x=>match Et E g t2 x with
   | none=>none
   | some r=>some (true,r)
def Nd {β:Type} (E:Aj) (g:Nat) (o:Oper) (t1 t2:Nat) (s x:Ro) (k:Bb→Bool→Option β):Option β :=
 match E.ty t1 with
 | some d=>match d.kd with
   | .slc e=>match E.ty e with
     | none=>none
     | some de=>match JQ E t1 s with
       | none=>none
       | some (g1,n,cs,el,us)=>match JL E g t2 x with
         | none=>none
         | some (gg,m,cs',el',us')=>match Qf n el el'&&A1 g el'&&Bv ((us++us').map (·.1))&&Nat.ble de.bytes 1024&&el'.length==de.sz with
           | false=>none
           | true=>Xz g1 (gd (gg&&Nat.ble (n+m) lim) (k ⟨AO o (.val false [.sl .own el'] [.lst (n+m) (cs++cs')] [] 0)++(us++us'),none⟩ true))
   | _=>none
 | none=>none
def Pz {β:Type} (E:Aj) (g:Nat) (t:Nat) (r x:Ro) (k:Bb→Bool→Option β):Option β :=
 match BO r with
 | none=>none
 | some (j,pl,root)=>match pl.path with
   | []=>match E.ty t with
     | none=>none
     | some d=>match root.root with
       | none=>none
       | some (p,cs,dd)=>match LF E g t x with
         | none=>none
         | some (gg,v,us)=>match Bx p pl.c d.sz with
           | none=>none
           | some _=>match C3 cs (ix p.length pl.e pl.c) d.sz with
             | none=>none
             | some _=>match v.cs.length==d.sz && !(us.any fun u=>u.1==j) && !root.pinned with
               | false=>none
               | true=>Xz gg (k ⟨us++[(j,root.withRoot (Bn p pl.c v.p) (AT cs pl.c v.cs) (([],pl.c,d.sz)::dd))],none⟩ true)
   | path=>match E.ty t with
     | none=>none
     | some d=>match root.root with
       | none=>none
       | some (p,cs,dd)=>match LF E g t x with
         | none=>none
         | some (g1,v,us)=>match E0 p cs path with
           | none=>none
           | some (gg,el,rcs)=>match Bx el pl.c d.sz with
             | none=>none
             | some q=>match v.cs.length==d.sz && !(us.any fun u=>u.1==j)&&pbeqs v.p q&&Nat.blt 0 d.sz with
               | false=>none
               | true=>Xz g1 (gd (gg&&Nat.ble (ix el.length pl.e pl.c+d.sz) rcs.length)
                  (k ⟨us++[(j,root.withRoot p (GB (fun rcs=>AT rcs (ix el.length pl.e pl.c) v.cs) p cs path) ((E6 path,pl.c,d.sz)::dd))],some (g+1)⟩ true))
def OB {β:Type} (E:Aj) (o:Oper) (r:Ro) (old:AA) (k:Bb→Bool→Option β):Option β :=
 match r with
 | .slot t (.view j pl) root=>match pl.path with
   | []=>JC (EC E o (.slot t (.view j pl) root) old) false k
   | path=>if old.pinned then none else match o.dst with
     | none=>none
     | some dst=>if t=dst then none else if j=dst then none else match root with
       | .val _ p cs d pin=>if pin != 0||DR d pl then none else if Nat.ble pl.n 0 then none else match HT E o.type with
         | none=>none
         | some ks=>match EA ks p cs pl with
           | none=>none
           | some (g,v)=>match E0 p cs path with
             | none=>none
             | some (gg,el,_)=>match CU v.p v.cs with
               | none=>none
               | some hs=>gd (g&&gg) (k ⟨[(dst,.val v.agg v.p v.cs Be 0),(j,root.withRoot p (GB (fun rcs=>AT rcs (ix el.length pl.e pl.c) hs) p cs path) ((E6 path,pl.c,pl.n)::d))],none⟩ false)
       | .box p cs d _=>if DR d pl then none else if Nat.ble pl.n 0 then none else match HT E o.type with
         | none=>none
         | some ks=>match EA ks p cs pl with
           | none=>none
           | some (g,v)=>match E0 p cs path with
             | none=>none
             | some (gg,el,_)=>match CU v.p v.cs with
               | none=>none
               | some hs=>gd (g&&gg) (k ⟨[(dst,.val v.agg v.p v.cs Be 0),(j,root.withRoot p (GB (fun rcs=>AT rcs (ix el.length pl.e pl.c) hs) p cs path) ((E6 path,pl.c,pl.n)::d))],none⟩ false)
       | _=>none
 | r=>JC (EC E o r old) false k
def K7 {β:Type} (E:Aj) (g:Nat) (o:Oper) (src dst:Nat) (r:Ro) (k:Bb→Bool→Option β):Option β :=
 match E.ty dst with
 | none=>none
 | some d=>Uw E src r fun v=>match v with
   | ⟨false,[.leaf],[u]⟩=>if NG E src then Tb d.kd u fun t=>k (FU o t) true else none
   | ⟨false,[.sl fl [.leaf]],[.lst _ cs]⟩=>if KW E src&&fl.live g then (match d.kd with
     | .str=>bd (H3 cs) fun bs=>k (FU o (.str bs)) true
     | _=>none) else none
   | _=>none
def OX (E:Aj):List Nat→List Ro→Option (Bool × List (Option V))
 | ty::tys,r::rs=>match Vr E ty r with
   | none=>none
   | some (g,o)=>match OX E tys rs with
     | none=>none
     | some (g',os)=>some (g&&g',o::os)
 | _,_=>some (true,[])
def In:List (Option V)→Bool
 | o::os=>(match o with
   | some v=>noLents v.p
   | none=>true)&&In os
 | []=>true
def I4:List B4→List (Option V)→Bool
 | .val::ms,o::os=>(match o with
   | some v=>noOwns v.p&&noLents v.p
   | none=>false)&&I4 ms os
 | _::ms,_::os=>I4 ms os
 | _,_=>true
def QE (E:Aj) (gm:Option Nat) (m:B4) (ty:Nat) (r:Ro) (o:Option V):Option (Bool × Ae × List (Nat × AQ)) :=
 match m with
 | .val=>match o with
   | some v=>some (true,⟨.val,⟨v.agg,shareBy gm v.p,v.cs⟩⟩,[])
   | none=>match r with
     | .slot _ (.ptr _ pl) root=>match pl.path with
       | []=>match DC E gm .val ty r with
         | none=>none
         | some (a,ks)=>some (true,a,ks)
       | _=>match E.ty ty with
         | none=>none
         | some d=>match d.kd with
           | .ptr e=>match HT E e with
             | none=>none
             | some ks=>match root.root with
               | none=>none
               | some (p,cs,dd)=>match Bl dd pl with
                 | true=>none
                 | false=>match EA ks p cs pl with
                   | none=>none
                   | some (g,v)=>match Nat.ble pl.n 0 with
                     | true=>none
                     | false=>some (g,⟨.val,⟨false,[.rf .shr (shareBy gm v.p)],[.ref v.cs]⟩⟩,[])
           | _=>none
     | r=>match DC E gm .val ty r with
       | none=>none
       | some (a,ks)=>some (true,a,ks)
 | .io=>match EW r with
   | none=>none
   | some (k,pl,root)=>match pl.path with
     | []=>match DC E gm .io ty r with
       | none=>none
       | some (a,ks)=>some (true,a,ks)
     | _=>match root.root with
       | none=>none
       | some (p,cs,d)=>match DR d pl||Nat.ble pl.n 0 with
         | true=>none
         | false=>match HT E ty with
           | none=>none
           | some ks=>match EA ks p cs pl with
             | none=>none
             | some (g,v)=>match noLents v.p with
               | true=>some (g,⟨.io,v⟩,[(k,pl)])
               | false=>none
 | m=>match DC E gm m ty r with
   | none=>none
   | some (a,ks)=>some (true,a,ks)
def La (a:Ae) (pl:AQ) (root:AA) (v:V):Option (Bool × AA):=match pl.path with
 | []=>match C2 a pl root v with
   | none=>none
   | some s=>some (true,s)
 | path=>match a.m with
   | .io=>match root.root with
     | none=>none
     | some (p,cs,d)=>match pbeqs v.p a.v.p&&v.cs.length==pl.n with
       | false=>match Kx v.p&&v.p.length==pl.n&&v.cs.length==pl.n with
         | false=>none
         | true=>match CU a.v.p a.v.cs with
           | none=>none
           | some hs=>Gs root pl hs pl.n
       | true=>match E0 p cs path with
         | none=>none
         | some (g,el,_)=>some (g,root.withRoot p (GB (fun rcs=>AT rcs (ix el.length pl.e pl.c) v.cs) p cs path) ((E6 path,pl.c,pl.n)::d))
   | _=>none
def DD (roots:Nat→AA):List Ae→List (Nat × AQ)→List V→Option (Bool × List (Nat × AA))
 | [],[],[]=>some (true,[])
 | a::as,ks,vs=>match a.m with
   | .val=>DD roots as ks vs
   | _=>match ks,vs with
     | (k,pl)::ks,v::vs=>match La a pl (roots k) v with
       | none=>none
       | some (g,s)=>match DD roots as ks vs with
         | none=>none
         | some (g',us)=>some (g&&g',(k,s)::us)
     | _,_=>none
 | _,_,_=>none
def Db (E:Aj) (gm:Option Nat):List B4→List Nat→List Ro→List (Option V)→Option (Bool × List Ae × List (Nat × AQ))
 | [],[],[],_=>some (true,[],[])
 | m::ms,ty::tys,r::rs,o::os=>match QE E gm m ty r o with
   | none=>none
   | some (g,a,ks)=>match Db E gm ms tys rs os with
     | none=>none
     | some (g',as,ks')=>some (g&&g',a::as,ks++ks')
 | _,_,_,_=>none
def PO {β:Type} (E:Aj) (O:BZ) (o:Oper) (f:Nat) (tys:List Nat) (rs:List Ro) (g:Nat) (k:Bb→Bool→Option β):Option β :=
 match E.fn f with
 | none=>none
 | some fd=>match OX E tys rs with
   | none=>none
   | some (g0,os) =>
     if (fd.modes rs.length).all Hn then
      (if In os then
        (match Db E none (fd.modes rs.length) tys rs os with
        | none=>none
        | some (g1,as,_)=>gd g0 (gd g1 (O.cf f as fun r=>if Gg (I4 (fd.modes rs.length) os) r.rs then k ⟨Ac o r.rs,none⟩ false else none)))
      else match Db E (some g) (fd.modes rs.length) tys rs os with
       | none=>none
       | some (g1,as,_)=>gd g0 (gd g1 (O.cf f as fun r=>if Gg false r.rs then k ⟨Ac o r.rs,none⟩ true else none)))
     else match Db E none (fd.modes rs.length) tys rs os with
      | none=>none
      | some (g1,as,ks) =>
        if Bv (ks.map (·.1)) && !((Cz (fd.modes rs.length) rs).any fun k=>(ks.map (·.1)).any fun k'=>k==k') then
         gd g0 (gd g1 (O.cf f as fun r=>if Gg (I4 (fd.modes rs.length) os) r.rs&&Gg (I4 (fd.modes rs.length) os) (r.outs.filterMap id) then (match DD (Bz rs) as ks (r.outs.filterMap id) with
          | none=>none
          | some (g2,us)=>gd g2 (if Bv ((Ac o r.rs++us).map (·.1)) then k ⟨Ac o r.rs++us,some (g+1)⟩ true else none)) else none))
        else none
def GL {β:Type} (E:Aj):List Nat→List Ro→(List T→Option β)→Option β
 | [],[],k=>k []
 | ty::tys,r::rs,k=>EM E ty r fun t=>GL E tys rs fun ts=>k (t::ts)
 | _,_,_=>none
def Yd {β:Type} (E:Aj) (O:BZ) (o:Oper) (rs:List Ro) (old:AA) (g:Nat) (k:Bb→Bool→Option β):Option β :=
 match o.op,rs with
 | .pick _ _ _,[c,x,y]=>EM E 0 c fun t=>match t with
   | .bool b=>br b (JC (B9 E o x) false k) (JC (B9 E o y) false k)
   | _=>none
 | .load t _,[r]=>TQ E o t r k
 | .assign _,[r]=>OB E o r old k
 | .buildSlice t len parts,rs=>Gl E g o t len ((parts.toList.map (·.1)).zip rs) k
 | .store t _ _,[r,x]=>if o.dst.isSome then none else Pz E g t r x k
 | .binOp op xt _ _ yt,[x,y]=>EM E xt x fun u=>EM E yt y fun v=>if Pd E xt u then (match VC op u v with
   | none=>none
   | some (gg,t)=>gd gg (k (FU o t) false)) else none
 | .unOp op xt _,[x]=>EM E xt x fun u=>match Ug op u with
   | none=>none
   | some t=>k (FU o t) false
 | .convert src dst _,[x]=>K7 E g o src dst x k
 | .makeSlice t l c,[x,_]=>if D8 l c then IJ E o t x 0 k else none
 | .slice t _ lo hi none,r::rs=>match lo,hi,rs with
   | none,none,[]=>JO E o t r none none 0 g k
   | some _,none,[x]=>JO E o t r (some x) none 0 g k
   | none,some _,[y]=>JO E o t r none (some y) 0 g k
   | some _,some _,[x,y]=>JO E o t r (some x) (some y) 0 g k
   | _,_,_=>none
 | .field s _ f,[r]=>Qc E o s r f k
 | .indexAddr t _ _,[r,i]=>H1 E g o t r i 0 k
 | .index t _ _,[r,i]=>QR E o t r i 0 k
 | .call c,rs=>match c.callee with
   | .builtin b=>match b,c.argTypes.toList,rs with
     | .len,[t],[r]=>VP E g o t r k
     | .append,[t1,t2],[s,x]=>Nd E g o t1 t2 s x k
     | .max,tys,rs=>GL E tys rs fun ts=>match ts with
       | t::ts=>match G2 true t ts with
         | none=>none
         | some t=>k (FU o t) false
       | _=>none
     | .min,tys,rs=>GL E tys rs fun ts=>match ts with
       | t::ts=>match G2 false t ts with
         | none=>none
         | some t=>k (FU o t) false
       | _=>none
     | _,_,_=>none
   | .value (.func f)=>PO E O o f c.argTypes.toList (rs.drop 1) g k
   | .value _=>match rs with
     | .clo _ f caps::rs=>PO E O o f (c.argTypes.toList++caps.map fun _=>0) (rs++caps.map fun x => .slot x.1 (.ptr x.1 x.2.1) x.2.2) g k
     | .slot _ (.val false [.fn ps] [.fn f ts] _ _) _::rs=>PO E O o f (c.argTypes.toList++ps.map fun _=>0) (rs++(ps.zip ts).map fun x => .v ⟨false,[x.1],[x.2]⟩) g k
     | _=>none
   | _=>none
 | _,_=>fall (A5 E (fun _ _=>none) o rs old g) k
def WX {β:Type} (E:Aj) (O:BZ) (o:Oper) (f:List Nat) (σ:AS) (k:D9→Option β):Option β :=
 Yd E O o (AW σ.env o.op) (Hx σ.env o) σ.g fun out usesG=>if EB o (Hx σ.env o) out.ups then k ⟨out.ups,out.g,
    f++Kz o.op (AW σ.env o.op) out.ups++Ej o++(if usesG then [G] else []),
    out.ups.map (·.1)++Ll σ.env out.ups++(match out.g with
     | none=>[]
     | some _=>[G])⟩ else none
def AA.withBool (c:Bool):AA→AA
 | .val a p [.bool _] d pin => .val a p [.bool c] d pin
 | s=>s
def SK:List (Nat × AA)→Nat→Bool→List (Nat × AA)
 | [],_,_=>[]
 | (j,s)::r,d,c=>match Nat.beq j d with
   | true=>(j,s.withBool c)::r
   | false=>(j,s)::SK r d c
def SY {β:Type} (ops:Array Oper) (o:Oper) (σ:AS) (k:AS→Option β):Option β :=
 match o.guard with
 | none=>k σ
 | some (j,_)=>match (ops[j]?).bind (·.dst) with
   | none=>none
   | some d=>match AG σ.env d with
     | .val false [.leaf] [.bool b] _ _=>br b (k ⟨SK σ.env d true,σ.g⟩) (k ⟨SK σ.env d false,σ.g⟩)
     | _=>k σ
def TV {β:Type} (E:Aj) (O:BZ) (ops:Array Oper) (o:Oper) (σ:AS) (k:D9→Option β):Option β :=
 match FL ops σ.env o with
 | none=>none
 | some (true,f)=>WX E O o f σ k
 | some (false,f)=>k ⟨AO o .und,none,f,Ej o++(Ej o).map C7⟩
def I8 {β:Type} (E:Aj) (O:BZ) (ops:Array Oper):List Oper→AS→List (List Nat × List Nat)→(AS→List (List Nat × List Nat)→Option β)→Option β
 | [],σ,fs,k=>k σ fs.reverse
 | o::os,σ,fs,k=>SY ops o σ fun σ=>TV E O ops o σ fun st=>I8 E O ops os ⟨At st.ups σ.env,st.g.getD σ.g⟩ ((st.foot,st.writes)::fs) k
def VB:Code→Nat
 | .region id _ _=>16 * id
 | .seq a _=>VB a
 | .cond _ x _=>VB x
 | .block _ x=>VB x
 | .loop x=>VB x+1
 | _=>0
def rg {β:Type} (σ:AS) (k:AS→Option β):Option β:=k σ
def E5 {β:Type} (E:Aj) (O:BZ) (keep:List (Nat × List Nat)):Code→AS→(Ex→AS→Option β)→Option β
 | .skip,σ,k=>k .normal σ
 | .region id ops draw,σ,k=>rg (settle (BQ keep id) σ) fun σ=>I8 E O ops ops.toList σ [] fun σ' fs=>if !draw||Dj (Region.before ops) 0 [] fs then k .normal σ' else none
 | .seq a b,σ,k=>E5 E O keep a σ fun ex σ'=>match ex with
   | .normal=>E5 E O keep b σ' k
   | .exit id=>k (.exit id) σ'
   | .ret=>k .ret σ'
 | .cond c x y,σ,k=>EM E 0 (AB σ.env c) fun t=>match t with
   | .bool b=>br b (E5 E O keep x σ k) (E5 E O keep y σ k)
   | _=>none
 | .block id body,σ,k=>E5 E O keep body σ fun ex σ'=>match ex with
   | .exit id'=>if id'=id then k .normal σ' else k (.exit id') σ'
   | .normal=>k .normal σ'
   | .ret=>k .ret σ'
 | .loop body,σ,k=>O.lp (VB body) (settle (BQ keep (Bg body)) σ) k
 | .exit id,σ,k=>k (.exit id) σ
 | .ret,σ,k=>k .ret σ
 | _,_,_=>none
def Bi:Code→List Code
 | .loop b=>[b]
 | .seq a b=>Bi a++Bi b
 | .cond _ a b=>Bi a++Bi b
 | .block _ a=>Bi a
 | _=>[]
def Es:Code→List Code
 | .loop b=>b::Es b
 | .seq a b=>Es a++Es b
 | .cond _ a b=>Es a++Es b
 | .block _ a=>Es a
 | _=>[]
def An (c:Code) (i:Nat):Code:=(Es c).getD i .skip
def YW {β:Type} (E:Aj) (O:BZ) (f:Nat) (as:List Ae) (k:C8→Option β):Option β :=
 match E.fn f with
 | some (.code c modes outs results keep)=>if DJ modes as then E5 E O keep c ⟨HB 0 as,0⟩ fun ex σ=>match NO modes outs results keep (some (ex,σ)) with
   | none=>none
   | some r=>k r else none
 | _=>none
theorem Ot {cs:List T} {j:Nat} (h:Ag [.lst] cs j=true):cs[j]?=some (.lst (EF cs j) (EN cs j)):=by
 simp only[Ag,Bool.and_true] at h
 split at h
 ·rename_i t ht
  cases t <;>simp[MO] at h
  simp[EF,EN,ht]
 ·simp at h
theorem IS:∀ {path:List (Nat × Nat)} {ps:List Pm} {cs:List T} {r:List Pm × List T},H4 ps cs path=some (true,r)→rowAt ps cs path=some r
 | [],ps,cs,r,h=>by simp only[H4,zS,zP,true_and] at h;rw[← h];rfl
 | (e,c)::path,ps,cs,r,h=>by
   simp only[H4] at h
   split at h
   ·rename_i el hc
    split at h
    ·simp at h
    ·rename_i g r' hr
     simp only[zS,zP,zB] at h
     obtain ⟨⟨rfl,h2⟩,rfl⟩:=h
     simp only[rowAt,hc,Ot h2]
     exact IS hr
   ·simp at h
theorem Ci {path:List (Nat × Nat)} {ps:List Pm} {cs:List T} {r:List Pm × List T} (h:E0 ps cs path=some (true,r)):rowAt ps cs path=some r:=by
 cases path with
 | nil=>simp only[E0,zS,zP,true_and] at h;rw[← h];rfl
 | cons ec path =>
   obtain ⟨e,c⟩:=ec
   simp only[E0] at h
   split at h
   ·rename_i el hc
    split at h
    ·rename_i n cs' hcs
     simp only[rowAt,hc,hcs]
     exact IS h
    ·simp at h
   ·simp at h
theorem Bu {ks:List CK} {ps:List Pm} {cs:List T} {pl:AQ} {v:V} (h:EA ks ps cs pl=some (true,v)):atPlace ps cs pl=some v:=by
 unfold EA at h
 split at h
 ·split at h
  ·simp at h
  ·rename_i v' hv
   simp only[zS,zP,true_and] at h
   rw[hv,h]
 ·split at h
  ·simp at h
  rename_i g el rcs hr
  split at h
  ·simp at h
  rename_i hl
  have hl:ks.length=pl.n:=by simpa using hl
  split at h
  ·simp at h
  rename_i p hp
  simp only[zS,zP,zB] at h
  obtain ⟨⟨rfl,h2⟩,rfl⟩:=h
  have:=IL h2
  rw[hl] at this
  simp only[atPlace,Ci hr,hp,this]
theorem Eq {E:Aj} {ty:Nat} {r:Ro} {o:Option V} (h:Vr E ty r=some (true,o)):Aa E ty r=o:=by
 unfold Vr at h
 split at h
 ·rename_i t j pl root
  split at h
  ·rename_i hr
   simp only[zS,zP,true_and] at h
   simp only[Aa,hr,← h]
  ·rename_i p cs d hr
   split at h
   ·rename_i hst
    simp only[zS,zP,true_and] at h
    simp only[Aa,hr,hst,← h,if_true]
   ·rename_i hst
    split at h
    ·simp at h
    ·split at h
     ·simp at h
     ·rename_i ks _ g v hat
      simp only[zS,zP] at h
      obtain ⟨rfl,rfl⟩:=h
      simp only[Aa,hr,hst,Bool.false_eq_true,if_false,Bu hat]
 ·simp only[zS,zP,true_and] at h
  exact h
theorem Eo {β:Type} {E:Aj} {ty:Nat} {r:Ro} {k:V→Option β} {x:β} (h:Uw E ty r k=some x):∃ v,Aa E ty r=some v∧k v=some x:=by
 unfold Uw at h
 split at h
 ·rename_i g v hr
  obtain ⟨rfl,h2⟩:=BF h
  exact ⟨v,Eq hr,h2⟩
 ·simp at h
theorem BA {β:Type} {E:Aj} {ty:Nat} {r:Ro} {k:T→Option β} {x:β} (h:EM E ty r k=some x):∃ t,BD E ty r=some t∧k t=some x:=by
 obtain ⟨v,h1,h2⟩:=Eo h
 split at h2
 ·rename_i t
  exact ⟨t,by simp only[BD,h1],h2⟩
 ·simp at h2
theorem HR {x:Option T} {t:T} {g:Bool} (h:Wc x=some (g,t)):x=some t:=by
 cases x <;>simp[Wc] at h
 rw[h.2]
theorem Qa {op:BinOp} {k:FloatKind} {x y:Nat} {t:T} (h:Vd op k x y=some t):Bq op (.flt k x) (.flt k y)=some t:=by
 cases op <;>simp only[Vd] at h <;>first | (simp only[Bq,if_true];exact h) | (simp at h)
theorem QN {op:BinOp} {u v t:T} (h:VC op u v=some (true,t)):Bq op u v=some t:=by
 unfold VC at h
 split at h
 ·rename_i k x k' y
  split at h
  ·simp only[zS,zP,decide_eq_true_eq] at h
   simp only[Bq];rw[if_pos h.1,h.2]
  ·simp only[zS,zP,decide_eq_true_eq] at h
   simp only[Bq];rw[if_pos h.1,h.2]
  ·split at h
   ·rename_i e
    simp only[zS,zP,Bool.not_eq_true',decide_eq_false_iff_not] at h
    simp only[Bq];rw[if_pos e,if_neg h.1,h.2]
   ·simp at h
  ·split at h
   ·rename_i e
    simp only[zS,zP,Bool.not_eq_true',decide_eq_false_iff_not] at h
    simp only[Bq];rw[if_pos e,if_neg h.1,h.2]
   ·simp at h
  ·exact HR h
 ·split at h
  ·rename_i e;subst e
   exact Qa (HR h)
  ·simp at h
 ·rename_i a b
  split at h
  ·simp only[zS,zP,decide_eq_true_eq] at h
   simp only[Bq];rw[if_pos h.1,h.2]
  ·exact HR h
 ·exact HR h
theorem PC {β:Type} {kd:Kd} {u:T} {k:T→Option β} {x:β} (h:Tb kd u k=some x):∃ t,Ju kd u=some t∧k t=some x:=by
 unfold Tb at h
 split at h
 ·obtain ⟨n,h1,h2⟩:=Ch h
  exact ⟨_,by simp only[Ju,h1],h2⟩
 ·obtain ⟨n,h1,h2⟩:=Ch h
  exact ⟨_,by simp only[Ju,h1],h2⟩
 ·split at h
  ·simp at h
  ·rename_i t ht
   exact ⟨t,ht,h⟩
theorem MQ {m:Bool} {u v t:T} (h:Nz m u v=some t):IB m u v=some t:=by
 unfold Nz at h
 split at h
 ·rename_i k x k' y
  split at h
  ·rename_i e;subst e
   simp only[zS] at h
   subst h
   simp only[IB,ne_eq,not_true_eq_false,if_false,ZS]
   split <;>(first | rfl | simp_all)
  ·simp at h
 ·exact h
theorem E7 {m:Bool}:∀ {us:List T} {t r:T},G2 m t us=some r→D3 m t us=some r
 | [],t,r,h=>h
 | u::us,t,r,h=>by
   simp only[G2] at h
   split at h
   ·simp at h
   ·rename_i t' ht
    simp only[D3,MQ ht]
    exact E7 h
theorem DI (o:Oper) (t:T):BP o (some t)=some (FU o t):=rfl
section
variable {β:Type} {E:Aj} {O:BZ} {cf:Nat→List Ae→Option C8} {o:Oper} {k:Bb→Bool→Option β} {x:β}
theorem Cc {y:Option Bb} {u:Bool} (h:JC y u k=some x):∃ out,y=some out∧k out u=some x:=by
 unfold JC at h
 split at h
 ·simp at h
 ·exact ⟨_,rfl,h⟩
theorem Pc {t:Nat} {r:Ro} (h:TQ E o t r k=some x):∃ out,FV E o t r=some out∧k out false=some x:=by
 unfold TQ at h
 split at h
 ·simp at h
 rename_i d hd
 split at h
 ·rename_i j pl root hp
  split at h
  ·simp at h
  rename_i p cs dd hr
  split at h
  ·simp at h
  rename_i g v hat
  obtain ⟨rfl,h⟩:=BF h
  have:=Bu hat
  unfold FV
  simp only[hd,hp,hr,this]
  split at h
  ·rename_i hn
   exact ⟨_,by rw[if_pos hn],h⟩
  ·rename_i hn
   exact ⟨_,by rw[if_neg hn],h⟩
 ·exact Cc h
theorem M9 {s:Nat} {r:Ro} {f:Nat} (h:Qc E o s r f k=some x):∃ out,GG E o s r f=some out∧k out false=some x:=by
 unfold Qc at h
 split at h
 ·rename_i t j pl root
  split at h
  ·exact Cc h
  ·split at h
   ·simp at h
   rename_i d hd
   split at h
   ·rename_i fs hk
    split at h
    ·simp at h
    rename_i off ty hf
    split at h
    ·simp at h
    rename_i d' hd'
    obtain ⟨v,hv,h⟩:=Eo h
    split at h
    ·simp at h
    rename_i hag
    split at h
    ·simp at h
    rename_i p hp
    split at h
    ·simp at h
    rename_i c hc
    unfold GG
    simp only[hd,hk,hf,hd',hv,hag,hp,hc,Bool.not_true,Bool.false_eq_true,if_false]
    split at h
    ·rename_i hn
     exact ⟨_,by rw[if_pos hn],h⟩
    ·rename_i hn
     exact ⟨_,by rw[if_neg hn],h⟩
   ·simp at h
 ·exact Cc h
theorem JY {t n:Nat} {ks:List CK}:Mm E t=some ks→Nat.beq ks.length n=true→ks.length=n:=fun _ h=>by simpa using h
theorem JJ {g t iTy:Nat} {r ri:Ro} (h:H1 E g o t r ri iTy k=some x):∃ out,EE E g o t r ri iTy=some out∧k out true=some x:=by
 unfold H1 at h
 obtain ⟨ti,h1,h⟩:=BA h
 split at h
 ·rename_i ik i
  obtain ⟨v,h2,h⟩:=Eo h
  split at h
  ·rename_i fl el n cs
   unfold EE
   simp only[h1,h2]
   split at h
   ·simp at h
   rename_i hst
   simp only[zB] at hst
   split at h
   ·split at h
    ·obtain ⟨hb,h⟩:=BF h
     have hb:=of_decide_eq_true hb
     exact ⟨_,by rw[if_pos ⟨hb.1,hb.2,hst.1,hst.2⟩],h⟩
    ·rename_i j s root hns _ _
     obtain ⟨hb,h⟩:=BF h
     have hb:=of_decide_eq_true hb
     refine ⟨_,?_,h⟩
     rw[if_pos ⟨hb.1,hb.2,hst.1,hst.2⟩]
     cases s <;>first | rfl | exact (hns _ _ rfl).elim
    ·simp at h
   ·rename_i hfl
    split at h
    ·simp at h
    rename_i ks hks
    split at h
    ·simp at h
    rename_i hl
    obtain ⟨hb,h⟩:=BF h
    simp only[zB] at hb
    have hb1:=of_decide_eq_true hb.1
    have hc:=IL hb.2
    rw[JY hks hl] at hc
    refine ⟨_,?_,h⟩
    rw[if_pos ⟨hb1.1,hb1.2,hst.1,hst.2⟩]
    cases fl with
    | own=>exact absurd rfl (hfl)
    | shr=>simp only[hc]
    | lent g'=>simp only[hc]
  ·simp at h
 ·simp at h
theorem Ny {t iTy:Nat} {r ri:Ro} (h:QR E o t r ri iTy k=some x):∃ out,I2 E o t r ri iTy=some out∧k out false=some x:=by
 unfold QR at h
 obtain ⟨ti,h1,h⟩:=BA h
 split at h
 ·rename_i ik i
  obtain ⟨ts,h2,h⟩:=BA h
  split at h
  ·rename_i s
   split at h
   ·simp at h
   rename_i hst
   obtain ⟨hb,h⟩:=BF h
   have hb:=of_decide_eq_true hb
   have hlt:i.toNat<s.length:=by omega
   unfold I2
   simp only[h1,h2]
   refine ⟨_,?_,h⟩
   rw[if_pos ⟨hb.1,hst⟩]
   simp only[Td,List.getElem?_eq_getElem hlt]
   rfl
  ·simp at h
 ·simp at h
theorem Jf {t lTy:Nat} {l:Ro} (h:IJ E o t l lTy k=some x):∃ out,ED E o t l lTy=some out∧k out false=some x:=by
 unfold IJ at h
 split at h
 ·rename_i d hd
  split at h
  ·rename_i e hk
   split at h
   ·simp at h
   rename_i de hde
   obtain ⟨tl,h1,h⟩:=BA h
   split at h
   ·rename_i n
    split at h
    ·simp at h
    rename_i hby
    obtain ⟨hb,h⟩:=BF h
    have hb:=of_decide_eq_true hb
    unfold ED
    simp only[hd,hk,hde,h1]
    exact ⟨_,by rw[if_pos ⟨hb.1,hb.2,by simpa using hby⟩],h⟩
   ·simp at h
  ·simp at h
 ·simp at h
theorem Ei {β:Type} {x:β} {ty:Nat} {d:Int} {r:Option Ro} {k:Int→Option β} (h:Jj E ty d r k=some x):∃ n,G1 E ty d r=some n∧k n=some x:=by
 unfold Jj at h
 split at h
 ·exact ⟨d,rfl,h⟩
 ·obtain ⟨t,h1,h⟩:=BA h
  split at h
  ·exact ⟨_,by simp only[G1,h1],h⟩
  ·simp at h
theorem El {t iTy g:Nat} {r:Ro} {lo hi:Option Ro} (h:JO E o t r lo hi iTy g k=some x):∃ out,Cr E o t r lo hi iTy g=some out∧k out true=some x:=by
 unfold JO at h
 obtain ⟨v,h1,h⟩:=Eo h
 have key:∀ out,D1 E o t r lo hi iTy g=some out→Cr E o t r lo hi iTy g=some out:=fun out h=>by unfold Cr;rw[h]
 split at h
 ·rename_i s
  obtain ⟨l,h2,h⟩:=Ei h
  obtain ⟨hh,h3,h⟩:=Ei h
  split at h
  ·simp at h
  rename_i hst
  obtain ⟨hb,h⟩:=BF h
  have hb:=of_decide_eq_true hb
  refine ⟨_,key _ ?_,h⟩
  unfold D1
  simp only[h1,h2,h3]
  rw[if_pos ⟨hb.1,hb.2.1,hb.2.2,hst⟩]
 ·rename_i fl el n cs
  obtain ⟨l,h2,h⟩:=Ei h
  obtain ⟨hh,h3,h⟩:=Ei h
  split at h
  ·simp at h
  rename_i hst
  simp only[zB] at hst
  obtain ⟨hb,h⟩:=BF h
  have hb:=of_decide_eq_true hb
  cases fl with
  | shr =>
    refine ⟨_,key _ ?_,h⟩
    unfold D1
    simp only[h1,h2,h3]
    rw[if_pos ⟨hb.1,hb.2.1,hb.2.2,hst.1,hst.2⟩]
  | lent g' =>
    refine ⟨_,key _ ?_,h⟩
    unfold D1
    simp only[h1,h2,h3]
    rw[if_pos ⟨hb.1,hb.2.1,hb.2.2,hst.1,hst.2⟩]
  | own =>
    simp only at h
    split at h
    ·rename_i hno
     refine ⟨_,key _ ?_,h⟩
     unfold D1
     simp only[h1,h2,h3]
     rw[if_pos ⟨hb.1,hb.2.1,hb.2.2,hst.1,hst.2⟩]
     simp only[hno]
    ·rename_i hno
     have hok:A6 el=true:=by
      simp only[Bool.or_eq_false_iff,Bool.not_eq_false'] at hno
      exact hno.2
     have e1:D1 E o t r lo hi iTy g=none:=by
      unfold D1
      simp only[h1,h2,h3]
      rw[if_pos ⟨hb.1,hb.2.1,hb.2.2,hst.1,hst.2⟩]
      simp only[hno]
     cases r with
     | slot tt s root =>
       cases s with
       | view kk pl =>
         simp only at h
         cases hpath:pl.path with
         | cons a b=>simp[hpath] at h
         | nil =>
           simp only[hpath] at h
           cases hroot:root.root with
           | none=>simp[hroot] at h
           | some pcd =>
             obtain ⟨p,rcs,d⟩:=pcd
             simp only[hroot] at h
             refine ⟨_,?_,h⟩
             unfold Cr
             rw[e1]
             simp only[HG,h1,h2,h3]
             rw[if_pos ⟨hb.1,hb.2.1,hb.2.2,hst.1,hok⟩]
             simp only[hpath,hroot]
       | _=>simp at h
     | _=>simp at h
 ·simp at h
theorem Po {g t:Nat} {r:Ro} (h:VP E g o t r k=some x):∃ out,OP E g o t r=some out∧k out true=some x:=by
 unfold VP at h
 obtain ⟨v,h1,h⟩:=Eo h
 unfold OP
 split at h
 ·simp only[h1]
  split at h
  ·rename_i hs
   exact ⟨_,by rw[if_pos hs,DI],h⟩
  ·simp at h
 ·simp only[h1]
  split at h
  ·rename_i hs
   simp only[zB] at hs
   exact ⟨_,by rw[if_pos ⟨hs.1,hs.2⟩,DI],h⟩
  ·simp at h
 ·simp at h
theorem Hs {f:List T→List T}:∀ {path:List (Nat × Nat)} {ps:List Pm} {cs:List T} {r:List Pm × List T},H4 ps cs path=some (true,r)→KS f ps cs path=Ax ps cs path f
 | [],_,_,_,_=>rfl
 | (e,c)::path,ps,cs,r,h=>by
   simp only[H4] at h
   split at h
   ·rename_i el hc
    split at h
    ·simp at h
    ·rename_i g r' hr
     simp only[zS,zP,zB] at h
     obtain ⟨⟨rfl,h2⟩,rfl⟩:=h
     simp only[KS,Ax,hc,Ot h2,Hs hr]
   ·simp at h
theorem Cu {f:List T→List T} {path:List (Nat × Nat)} {ps:List Pm} {cs:List T} {r:List Pm × List T} (h:E0 ps cs path=some (true,r)):GB f ps cs path=Ax ps cs path f:=by
 cases path with
 | nil=>rfl
 | cons ec path =>
   obtain ⟨e,c⟩:=ec
   simp only[E0] at h
   split at h
   ·rename_i el hc
    split at h
    ·rename_i n cs' hcs
     simp only[GB,Ax,hc,hcs,Hs h]
    ·simp at h
   ·simp at h
theorem Iy {b:Option Bool} {y:Option β} (h:Xz b y=some x):(b=none∨b=some true)∧y=some x:=by
 cases b with
 | none=>exact ⟨.inl rfl,h⟩
 | some b =>
   obtain ⟨rfl,h⟩:=BF h
   exact ⟨.inr rfl,h⟩
theorem E2 {root s:AA} {pl:AQ} {hs:List T} {n:Nat} (h:Gs root pl hs n=some (true,s)):∃ p cs d el rcs,root.root=some (p,cs,d)∧rowAt p cs pl.path=some (el,rcs) ∧
  s=root.withRoot p (Ax p cs pl.path fun rcs=>AT rcs (ix el.length pl.e pl.c) hs) ((E6 pl.path,pl.c,n)::d):=by
 unfold Gs at h
 split at h
 ·simp at h
 rename_i p cs d hroot
 split at h
 ·simp at h
 rename_i g el rcs hrow
 simp only[zS,zP] at h
 obtain ⟨rfl,rfl⟩:=h
 exact ⟨p,cs,d,el,rcs,hroot,Ci hrow,by rw[Cu hrow]⟩
theorem GC {g ty:Nat} {r:Ro} {b:Option Bool} {v:V} {us:List (Nat × AA)} (h:LF E g ty r=some (b,v,us)) (hb:b=none∨b=some true):GZ E g ty r=some (v,us):=by
 unfold LF at h
 split at h
 ·rename_i t j pl root
  split at h
  ·split at h
   ·simp at h
   ·rename_i v' us' hr
    simp only[zS,zP] at h
    obtain ⟨-,rfl,rfl⟩:=h
    exact hr
  ·rename_i hpath
   split at h
   ·simp at h
   rename_i hn
   split at h
   ·rename_i gg v' hr
    split at h
    ·simp at h
    rename_i hf
    split at h
    ·simp at h
    rename_i hno
    split at h
    ·simp at h
    rename_i hs hh
    split at h
    ·simp at h
    rename_i g2 s hrow
    simp only[zS,zP] at h
    obtain ⟨rfl,rfl,rfl⟩:=h
    simp only[reduceCtorEq,zS,zB,false_or] at hb
    obtain ⟨rfl,rfl⟩:=hb
    obtain ⟨p,cs,d,el,rcs,h1,h2,rfl⟩:=E2 hrow
    unfold GZ
    rw[Eq hr]
    simp only[hf,hno,Bool.not_true,Bool.false_eq_true,if_false]
    cases hpl:pl.path with
    | nil=>exact absurd hpl hpath
    | cons a b =>
      rw[hpl] at h2
      simp only[hn,Bool.false_eq_true,if_false,h1,h2,hh,hpl]
   ·simp at h
 ·split at h
  ·simp at h
  ·rename_i v' us' hr
   simp only[zS,zP] at h
   obtain ⟨-,rfl,rfl⟩:=h
   exact hr
theorem Ul {a b:Option Bool} (h:UW a b=none∨UW a b=some true):(a=none∨a=some true)∧(b=none∨b=some true):=by
 cases a <;>cases b <;>simp_all [UW]
theorem Ff {g:Nat} {tys:Nat→Option Nat}:∀ {l:List (Nat × Ro)} {b:Option Bool} {vs:List (Nat × V)} {us:List (Nat × AA)},Er E g tys l=some (b,vs,us)→(b=none∨b=some true)→C9 E g tys l=some (vs,us)
 | [],b,vs,us,h,_=>by
   simp only[Er,zS,zP] at h
   obtain ⟨-,rfl,rfl⟩:=h;rfl
 | (i,r)::l,b,vs,us,h,hb=>by
   simp only[Er] at h
   split at h
   ·simp at h
   rename_i ty hty
   split at h
   ·simp at h
   rename_i gg v u h1
   split at h
   ·simp at h
   rename_i g2 vs' us' h2
   simp only[zS,zP] at h
   obtain ⟨rfl,rfl,rfl⟩:=h
   obtain ⟨q1,q2⟩:=Ul hb
   simp only[C9,hty,GC h1 q1,Ff h2 q2]
theorem IV {g t len:Nat} {parts:List (Nat × Ro)} (h:Gl E g o t len parts k=some x):∃ out,DZ E g o t len parts=some out∧k out true=some x:=by
 unfold Gl at h
 split at h
 ·rename_i d hd
  split at h
  ·rename_i e hk
   split at h
   ·simp at h
   rename_i de hde
   split at h
   ·rename_i hb
    split at h
    ·simp at h
    rename_i gg vs us h1
    split at h
    ·simp at h
    rename_i cs hf
    split at h
    ·rename_i hnd
     obtain ⟨hg,h⟩:=Iy h
     unfold DZ
     simp only[hd,hk,hde]
     exact ⟨_,by rw[if_pos hb,Ff h1 hg];simp only[hf];rw[if_pos hnd],h⟩
    ·simp at h
   ·simp at h
  ·simp at h
 ·simp at h
theorem KM {t1:Nat} {s:Ro} {b:Option Bool} {r:Nat × List T × List Pm × List (Nat × AA)} (h:JQ E t1 s=some (b,r)) (hb:b=none∨b=some true):Ev E t1 s=some r:=by
 unfold JQ at h
 split at h
 ·rename_i t j pl root
  split at h
  ·split at h
   ·simp at h
   ·rename_i r' hr
    simp only[zS,zP] at h
    rw[hr,h.2]
  ·rename_i hpath
   split at h
   ·simp at h
   rename_i hpin
   split at h
   ·rename_i gg el n cs hr
    split at h
    ·simp at h
    rename_i g2 s hrow
    simp only[zS,zP] at h
    obtain ⟨rfl,rfl⟩:=h
    simp only[reduceCtorEq,zS,zB,false_or] at hb
    obtain ⟨rfl,rfl⟩:=hb
    obtain ⟨p,cs',d,el2,rcs,h1,h2,rfl⟩:=E2 hrow
    unfold Ev
    rw[Eq hr]
    simp only[hpin,Bool.false_eq_true,if_false,h1]
    cases hpl:pl.path with
    | nil=>exact absurd hpl hpath
    | cons a b =>
      rw[hpl] at h2
      simp only[h2,hpl]
   ·simp at h
 ·split at h
  ·simp at h
  ·rename_i r' hr
   simp only[zS,zP] at h
   rw[hr,h.2]
theorem KP {g t2:Nat} {y:Ro} {r:Nat × List T × List Pm × List (Nat × AA)} (h:JL E g t2 y=some (true,r)):Et E g t2 y=some r:=by
 unfold JL at h
 split at h
 ·split at h
  ·split at h
   ·simp at h
   ·rename_i r' hr
    simp only[zS,zP,true_and] at h
    rw[hr,h]
  ·split at h
   ·rename_i gg fl el m cs hr
    split at h
    ·rename_i hc
     split at h
     ·rename_i hn
      simp only[zS,zP] at h
      obtain ⟨rfl,rfl⟩:=h
      unfold Et
      rw[Eq hr]
      simp only
      rw[if_pos hc,if_pos hn]
     ·simp at h
    ·simp at h
   ·simp at h
 ·split at h
  ·simp at h
  ·rename_i r' hr
   simp only[zS,zP,true_and] at h
   rw[hr,h]
theorem L6 {g t1 t2:Nat} {s y:Ro} (h:Nd E g o t1 t2 s y k=some x):∃ out,Fu E g o t1 t2 s y=some out∧k out true=some x:=by
 unfold Nd at h
 split at h
 ·rename_i d hd
  split at h
  ·rename_i e hk
   split at h
   ·simp at h
   rename_i de hde
   split at h
   ·simp at h
   rename_i g1 n cs el us h1
   split at h
   ·simp at h
   rename_i gg m cs' el' us' h2
   split at h
   ·simp at h
   rename_i hst
   simp only[zB] at hst
   obtain ⟨hg1,h⟩:=Iy h
   have h1:=KM h1 hg1
   obtain ⟨hb,h9⟩:=BF h
   simp only[zB] at hb
   obtain ⟨rfl,hb⟩:=hb
   have h2:=KP h2
   unfold Fu
   simp only[hd,hk,hde,h1,h2]
   exact ⟨_,by rw[if_pos (by simp only[zB];exact ⟨⟨⟨⟨hst.1.1.1,hst.1.1.2⟩,hb⟩,hst.1.2⟩,hst.2⟩)],h9⟩
  ·simp at h
 ·simp at h
theorem OA {g t:Nat} {r y:Ro} (h:Pz E g t r y k=some x):∃ out row,FK E g t r y=some (out,row)∧(if row then k ⟨out.ups,some (g+1)⟩ true else k out true)=some x:=by
 unfold Pz at h
 split at h
 ·simp at h
 rename_i j pl root hp
 split at h
 ·rename_i hpath
  split at h
  ·simp at h
  rename_i d hd
  split at h
  ·simp at h
  rename_i p cs dd hr
  split at h
  ·simp at h
  rename_i gg v us ht
  split at h
  ·simp at h
  rename_i q hq
  split at h
  ·simp at h
  rename_i c hc
  split at h
  ·simp at h
  rename_i hst
  simp only[zB,beq_iff_eq] at hst
  obtain ⟨⟨s1,s2⟩,s3⟩:=hst
  obtain ⟨hb,h'⟩:=Iy h
  have ht' :=GC ht hb
  have s3:root.pinned=false:=by simpa using s3
  unfold FK
  simp only[hd,hp,hr,ht',hpath,rowAt,hq,hc]
  rw[if_pos ⟨s1,s2⟩]
  simp only[s3,Bool.false_eq_true,if_false]
  exact ⟨_,false,rfl,by simpa using h'⟩
 ·rename_i path hpath
  split at h
  ·simp at h
  rename_i d hd
  split at h
  ·simp at h
  rename_i p cs dd hr
  split at h
  ·simp at h
  rename_i g1 v us ht
  split at h
  ·simp at h
  rename_i gg el rcs hrow
  split at h
  ·simp at h
  rename_i q hq
  split at h
  ·simp at h
  rename_i hst
  simp only[zB,beq_iff_eq] at hst
  obtain ⟨⟨⟨s1,s2⟩,s3⟩,s4⟩:=hst
  obtain ⟨hb1,h1⟩:=Iy h
  have ht' :=GC ht hb1
  obtain ⟨hb,h'⟩:=BF h1
  clear h h1
  simp only[zB,Nat.ble_eq] at hb
  obtain ⟨rfl,hb⟩:=hb
  have hrow' :=Ci hrow
  unfold FK
  simp only[hd,hp,hr,ht',hrow',hq,HJ hb]
  rw[if_pos ⟨s1,s2⟩]
  have hset:=Cu (f:=fun rcs=>AT rcs (ix el.length pl.e pl.c) v.cs) hrow
  cases hpl:pl.path with
  | nil=>exact absurd hpl hpath
  | cons a b =>
    refine ⟨_,true,by rw[if_pos s3],?_⟩
    simp only[if_true]
    rw[hset,hpl] at h'
    exact h'
theorem L8 {r:Ro} {old:AA} (h:OB E o r old k=some x):∃ out,EC E o r old=some out∧k out false=some x:=by
 unfold OB at h
 split at h
 ·rename_i t j pl root
  split at h
  ·exact Cc h
  ·rename_i hpath
   split at h
   ·simp at h
   rename_i hold
   split at h
   ·simp at h
   rename_i dst hd
   split at h
   ·simp at h
   rename_i htd
   split at h
   ·simp at h
   rename_i hjd
   split at h
   ·rename_i a p cs d pin
    split at h
    ·simp at h
    rename_i hps
    split at h
    ·simp at h
    rename_i hn
    split at h
    ·simp at h
    rename_i ks hks
    split at h
    ·simp at h
    rename_i g v hv
    split at h
    ·simp at h
    rename_i gg el rcs hrow
    split at h
    ·simp at h
    rename_i hs hh
    obtain ⟨hb,h'⟩:=BF h
    clear h
    simp only[zB] at hb
    obtain ⟨rfl,rfl⟩:=hb
    have hset:=Cu (f:=fun rcs=>AT rcs (ix el.length pl.e pl.c) hs) hrow
    rw[hset] at h'
    refine ⟨_,?_,h'⟩
    unfold EC
    rw[if_neg hold]
    simp only[hd]
    rw[if_neg htd,if_neg hjd,if_neg hps]
    cases hpl:pl.path with
    | nil=>exact absurd hpl hpath
    | cons a b =>
      rw[if_neg hn,Bu hv]
      have hrow' :=Ci hrow
      rw[hpl] at hrow'
      simp only[hrow',hh]
   ·rename_i p cs d pin
    split at h
    ·simp at h
    rename_i hps
    split at h
    ·simp at h
    rename_i hn
    split at h
    ·simp at h
    rename_i ks hks
    split at h
    ·simp at h
    rename_i g v hv
    split at h
    ·simp at h
    rename_i gg el rcs hrow
    split at h
    ·simp at h
    rename_i hs hh
    obtain ⟨hb,h'⟩:=BF h
    clear h
    simp only[zB] at hb
    obtain ⟨rfl,rfl⟩:=hb
    have hset:=Cu (f:=fun rcs=>AT rcs (ix el.length pl.e pl.c) hs) hrow
    rw[hset] at h'
    refine ⟨_,?_,h'⟩
    unfold EC
    rw[if_neg hold]
    simp only[hd]
    rw[if_neg htd,if_neg hjd,if_neg hps]
    cases hpl:pl.path with
    | nil=>exact absurd hpl hpath
    | cons a b =>
      rw[if_neg hn,Bu hv]
      have hrow' :=Ci hrow
      rw[hpl] at hrow'
      simp only[hrow',hh]
   ·simp at h
 ·exact Cc h
theorem K4 {g src dst:Nat} {r:Ro} (h:K7 E g o src dst r k=some x):∃ out,F5 E g o src dst r=some out∧k out true=some x:=by
 unfold K7 at h
 split at h
 ·simp at h
 rename_i d hd
 obtain ⟨v,h1,h⟩:=Eo h
 unfold F5
 split at h
 ·rename_i u
  simp only[hd,h1]
  split at h
  ·rename_i hl
   obtain ⟨t,h2,h⟩:=PC h
   exact ⟨_,by rw[if_pos hl,h2,DI],h⟩
  ·simp at h
 ·rename_i fl n cs
  simp only[hd,h1]
  split at h
  ·rename_i hl
   split at h
   ·rename_i hk
    obtain ⟨bs,h2,h⟩:=Ch h
    refine ⟨_,?_,h⟩
    rw[if_pos hl]
    simp only[hk,h2,DI]
   ·simp at h
  ·simp at h
 ·simp at h
end
def BZ.CfOk (O:BZ) (cf:Nat→List Ae→Option C8):Prop :=
 ∀ (β:Type) (f:Nat) (as:List Ae) (k:C8→Option β) (x:β),O.cf f as k=some x→∃ r,cf f as=some r∧k r=some x
theorem F6 {E:Aj}:∀ {tys:List Nat} {rs:List Ro} {os:List (Option V)},OX E tys rs=some (true,os)→GS E tys rs=In os∧(∀ ms,ms.length=tys.length→Bf E ms tys rs=I4 ms os)
 | [],rs,os,h=>by
   simp only[OX,zS,zP,true_and] at h
   subst h
   refine ⟨rfl,fun ms hm => ?_⟩
   have:ms=[]:=length_eq_zero_iff.1 hm
   subst this;cases rs <;>rfl
 | ty::tys,[],os,h=>by
   simp only[OX,zS,zP,true_and] at h
   subst h
   refine ⟨rfl,fun ms hm => ?_⟩
   cases ms with
   | nil=>rfl
   | cons m ms=>cases m <;>rfl
 | ty::tys,r::rs,os,h=>by
   simp only[OX] at h
   split at h
   ·simp at h
   rename_i g o ho
   split at h
   ·simp at h
   rename_i g' os' hos
   simp only[zS,zP,zB] at h
   obtain ⟨⟨rfl,rfl⟩,rfl⟩:=h
   obtain ⟨h1,h2⟩:=F6 hos
   have hr:=Eq ho
   refine ⟨by simp only[GS,In,hr,h1];cases o <;>rfl,fun ms hm => ?_⟩
   cases ms with
   | nil=>simp at hm
   | cons m ms =>
     have h3:=h2 ms (by simpa using hm)
     cases m with
     | val=>simp only[Bf,I4,hr,h3];cases o <;>rfl
     | io=>simp only[Bf,I4,h3]
     | iop=>simp only[Bf,I4,h3]
theorem NP {E:Aj} {gm:Option Nat} {m:B4} {ty:Nat} {r:Ro} {o:Option V} {a:Ae} {ks:List (Nat × AQ)} (hr:Aa E ty r=o) (h:QE E gm m ty r o=some (true,a,ks)):DC E gm m ty r=some (a,ks):=by
 have key:∀ m,(match DC E gm m ty r with | none=>none | some (a,ks)=>some (true,a,ks))=some (true,a,ks)→DC E gm m ty r=some (a,ks):=by
  intro m h
  split at h
  ·simp at h
  ·rename_i a' ks' hm
   simp only[zS,zP,true_and] at h
   obtain ⟨rfl,rfl⟩:=h
   exact hm
 unfold QE at h
 split at h
 ·split at h
  ·rename_i v
   simp only[zS,zP,true_and] at h
   obtain ⟨rfl,rfl⟩:=h
   simp only[DC,hr]
  ·split at h
   ·rename_i t j pl root
    split at h
    ·exact key .val h
    ·split at h
     ·simp at h
     split at h
     ·split at h
      ·simp at h
      split at h
      ·simp at h
      rename_i p cs dd hroot
      split at h
      ·simp at h
      rename_i hst
      split at h
      ·simp at h
      rename_i g v hat
      split at h
      ·simp at h
      rename_i hn
      simp only[zS,zP] at h
      obtain ⟨rfl,rfl,rfl⟩:=h
      have hp:BO (.slot t (.ptr j pl) root)=some (j,pl,root):=by
       simp only[BO,hroot,hst,Bool.false_eq_true,if_false]
      simp only[DC,hr,hp,hroot,Bu hat,hn,Bool.false_eq_true,if_false]
     ·simp at h
   ·exact key .val h
 ·split at h
  ·simp at h
  rename_i k pl root hio
  split at h
  ·exact key .io h
  ·rename_i hpath
   split at h
   ·simp at h
   rename_i p cs d hroot
   split at h
   ·simp at h
   rename_i hst
   split at h
   ·simp at h
   split at h
   ·simp at h
   rename_i g v hat
   split at h
   ·rename_i hnl
    simp only[zS,zP] at h
    obtain ⟨rfl,rfl,rfl⟩:=h
    simp only[Bool.or_eq_false_iff] at hst
    have hpe:pl.path.isEmpty=false:=by
     cases hpp:pl.path with
     | nil=>exact absurd hpp hpath
     | cons=>rfl
    simp only[DC,hio,hroot,hst.1,hst.2,hpe,Bool.false_and,Bool.or_false,Bool.false_eq_true,if_false,Bu hat,hnl,if_true]
   ·simp at h
 ·exact key _ h
theorem Kn {a:Ae} {pl:AQ} {root s:AA} {v:V} (h:La a pl root v=some (true,s)):C2 a pl root v=some s:=by
 unfold La at h
 split at h
 ·split at h
  ·simp at h
  ·rename_i s' hs
   simp only[zS,zP,true_and] at h
   rw[hs,h]
 ·rename_i hpath
  split at h
  ·rename_i hm
   split at h
   ·simp at h
   rename_i p cs d hroot
   split at h
   ·rename_i hc
    split at h
    ·simp at h
    rename_i hdd
    split at h
    ·simp at h
    rename_i hs hh
    obtain ⟨p',cs',d',el,rcs,h1,h2,rfl⟩:=E2 h
    rw[hroot] at h1
    obtain ⟨rfl,rfl,rfl⟩:p=p'∧cs=cs'∧d=d' :=by simpa using h1
    simp only[C2,hroot,hm,hc,Bool.false_eq_true,if_false,hdd,if_true]
    cases hpl:pl.path with
    | nil=>exact absurd hpl hpath
    | cons a b =>
      rw[hpl] at h2
      simp only[h2,hh]
   rename_i hc
   split at h
   ·simp at h
   rename_i g el rcs hrow
   simp only[zS,zP] at h
   obtain ⟨rfl,rfl⟩:=h
   simp only[C2,hroot,hm,hc,if_true]
   have hr:=Ci hrow
   split
   ·rename_i hpp;rw[hr] at hpp;simp at hpp
   ·rename_i hpp
    rw[hr] at hpp
    simp only[zS,zP] at hpp
    obtain ⟨rfl,rfl⟩:=hpp
    rw[Cu hrow]
  ·simp at h
theorem EL {roots:Nat→AA}:∀ {as:List Ae} {ks:List (Nat × AQ)} {vs:List V} {us:List (Nat × AA)},DD roots as ks vs=some (true,us)→Ct roots as ks vs=some us
 | [],[],[],us,h=>by simp only[DD,zS,zP,true_and] at h;rw[← h];rfl
 | [],_::_,_,us,h=>by simp[DD] at h
 | [],[],_::_,us,h=>by simp[DD] at h
 | a::as,ks,vs,us,h=>by
   simp only[DD] at h
   simp only[Ct]
   split at h
   ·rename_i hm
    simp only[hm]
    exact EL h
   ·rename_i hm
    split at h
    ·rename_i k pl ks v vs
     split at h
     ·simp at h
     rename_i g s hs
     split at h
     ·simp at h
     rename_i g' us' hus
     simp only[zS,zP,zB] at h
     obtain ⟨⟨rfl,rfl⟩,rfl⟩:=h
     split
     ·rename_i e;exact absurd e hm
     ·simp only[Kn hs,EL hus]
    ·simp at h
theorem D4 {E:Aj} {gm:Option Nat}:∀ {ms:List B4} {tys:List Nat} {rs:List Ro} {os:List (Option V)} {as:List Ae} {ks:List (Nat × AQ)},OX E tys rs=some (true,os)→Db E gm ms tys rs os=some (true,as,ks)→Bk E gm ms tys rs=some (as,ks)
 | [],[],[],os,as,ks,_,h=>by
   simp only[Db,zS,zP,true_and] at h
   obtain ⟨rfl,rfl⟩:=h;rfl
 | [],[],_::_,os,as,ks,_,h=>by simp[Db] at h
 | [],_::_,_,os,as,ks,_,h=>by simp[Db] at h
 | _::_,[],_,os,as,ks,_,h=>by simp[Db] at h
 | _::_,_::_,[],os,as,ks,_,h=>by simp[Db] at h
 | m::ms,ty::tys,r::rs,os,as,ks,hr,h=>by
   simp only[OX] at hr
   split at hr
   ·simp at hr
   rename_i g o ho
   split at hr
   ·simp at hr
   rename_i g' os' hos
   simp only[zS,zP,zB] at hr
   obtain ⟨⟨rfl,rfl⟩,rfl⟩:=hr
   simp only[Db] at h
   split at h
   ·simp at h
   rename_i g1 a ks1 h1
   split at h
   ·simp at h
   rename_i g2 as2 ks2 h2
   simp only[zS,zP,zB] at h
   obtain ⟨⟨rfl,rfl⟩,rfl,rfl⟩:=h
   simp only[Bk,NP (Eq ho) h1,D4 hos h2]
theorem IN {E:Aj} {gm:Option Nat}:∀ {ms:List B4} {tys:List Nat} {rs:List Ro} {x},Bk E gm ms tys rs=some x→ms.length=tys.length
 | [],[],rs,x,_=>rfl
 | [],_::_,rs,x,h=>by simp[Bk] at h
 | _::_,[],rs,x,h=>by simp[Bk] at h
 | _::_,_::_,[],x,h=>by simp[Bk] at h
 | m::ms,ty::tys,r::rs,x,h=>by
   simp only[Bk] at h
   split at h
   ·simp at h
   ·split at h
    ·simp at h
    ·rename_i h2
     simp[IN h2]
section
variable {β:Type} {E:Aj} {O:BZ} {cf:Nat→List Ae→Option C8} {o:Oper} {k:Bb→Bool→Option β} {x:β}
theorem G4 (hO:O.CfOk cf) {f:Nat} {tys:List Nat} {rs:List Ro} {g:Nat} (h:PO E O o f tys rs g k=some x):∃ out u,Dr E cf o f tys rs g=some (out,u)∧k out u=some x:=by
 unfold PO at h
 split at h
 ·simp at h
 rename_i fd hfd
 split at h
 ·simp at h
 rename_i g0 os hos
 unfold Dr
 simp only[hfd]
 split at h
 ·rename_i hall
  rw[if_pos hall]
  split at h
  ·rename_i hnl
   split at h
   ·simp at h
   rename_i g1 as ks hm
   obtain ⟨hg0,h'⟩:=BF h
   obtain ⟨hg1,h''⟩:=BF h'
   clear h h'
   subst hg0 hg1
   obtain ⟨r,hr,h⟩:=hO _ _ _ _ _ h''
   obtain ⟨e1,e2⟩:=F6 hos
   have hm' :=D4 hos hm
   rw[if_pos (e1.trans hnl),hm']
   simp only[hr]
   rw[e2 _ (IN hm')]
   split at h
   ·rename_i hok
    exact ⟨_,_,by rw[if_pos hok],h⟩
   ·simp at h
  ·rename_i hnl
   split at h
   ·simp at h
   rename_i g1 as ks hm
   obtain ⟨hg0,h'⟩:=BF h
   obtain ⟨hg1,h''⟩:=BF h'
   clear h h'
   subst hg0 hg1
   obtain ⟨r,hr,h⟩:=hO _ _ _ _ _ h''
   obtain ⟨e1,e2⟩:=F6 hos
   have hm' :=D4 hos hm
   rw[if_neg (by rw[e1];exact hnl),hm']
   simp only[hr]
   split at h
   ·rename_i hok
    exact ⟨_,_,by rw[if_pos hok],h⟩
   ·simp at h
 ·rename_i hall
  rw[if_neg hall]
  split at h
  ·simp at h
  rename_i g1 as ks hm
  split at h
  ·rename_i hks
   obtain ⟨hg0,h'⟩:=BF h
   obtain ⟨hg1,h''⟩:=BF h'
   clear h h'
   subst hg0 hg1
   obtain ⟨r,hr,h⟩:=hO _ _ _ _ _ h''
   obtain ⟨e1,e2⟩:=F6 hos
   have hm' :=D4 hos hm
   rw[hm']
   simp only
   rw[if_pos hks]
   simp only[hr]
   rw[e2 _ (IN hm')]
   split at h
   ·rename_i hok
    rw[if_pos hok]
    split at h
    ·simp at h
    ·rename_i g2 us hus
     obtain ⟨hg2,h'''⟩:=BF h
     clear h
     subst hg2
     split at h'''
     ·rename_i hnd
      simp only[EL hus]
      exact ⟨_,_,by rw[if_pos hnd],h'''⟩
     ·simp at h'''
   ·simp at h
  ·simp at h
theorem FQ {β:Type} {x:β}:∀ {tys:List Nat} {rs:List Ro} {k:List T→Option β},GL E tys rs k=some x→∃ ts,EG E tys rs=some ts∧k ts=some x
 | [],[],k,h=>⟨[],rfl,h⟩
 | [],_::_,k,h=>by simp[GL] at h
 | _::_,[],k,h=>by simp[GL] at h
 | ty::tys,r::rs,k,h=>by
   simp only[GL] at h
   obtain ⟨t,h1,h⟩:=BA h
   obtain ⟨ts,h2,h⟩:=FQ h
   exact ⟨t::ts,by simp only[EG,h1,h2],h⟩
theorem Nk {cf:Nat→List Ae→Option C8} {rs:List Ro} {old:AA} {g:Nat} (h:∀ c,o.op ≠ .call c):A5 E cf o rs old g=A5 E (fun _ _=>none) o rs old g:=by
 unfold A5
 split <;>first | rfl | (rename_i c _ e;exact absurd e (h c)) | (rename_i c e;exact absurd e (h c))
theorem Rc (hO:O.CfOk cf) {rs:List Ro} {old:AA} {g:Nat} (h:Yd E O o rs old g k=some x):∃ out u,A5 E cf o rs old g=some (out,u)∧k out u=some x:=by
 unfold Yd at h
 split at h
 ·rename_i a1 a2 a3 c y z hop
  obtain ⟨t,h1,h⟩:=BA h
  split at h
  ·rename_i b
   rcases NF h with ⟨rfl,h⟩ | ⟨rfl,h⟩
   ·obtain ⟨out,h2,h⟩:=Cc h
    exact ⟨out,false,by unfold A5;simp only[hop,h1,h2],h⟩
   ·obtain ⟨out,h2,h⟩:=Cc h
    exact ⟨out,false,by unfold A5;simp only[hop,h1,h2],h⟩
  ·simp at h
 ·rename_i t a1 r hop
  obtain ⟨out,h2,h⟩:=Pc h
  exact ⟨out,false,by unfold A5;simp only[hop,h2],h⟩
 ·rename_i a1 r hop
  obtain ⟨out,h2,h⟩:=L8 h
  exact ⟨out,false,by unfold A5;simp only[hop,h2],h⟩
 ·rename_i t len parts hop
  obtain ⟨out,h2,h⟩:=IV h
  exact ⟨out,true,by unfold A5;simp only[hop,h2],h⟩
 ·rename_i t a1 a2 r y hop
  split at h
  ·simp at h
  ·rename_i hd
   obtain ⟨out,row,h2,h⟩:=OA h
   split at h
   ·rename_i hrow
    exact ⟨_,_,by unfold A5;simp only[hop,h2];rw[if_neg hd];simp only[hrow,if_true],h⟩
   ·rename_i hrow
    exact ⟨_,_,by unfold A5;simp only[hop,h2];rw[if_neg hd,if_neg hrow],h⟩
 ·rename_i op xt a1 a2 yt y z hop
  obtain ⟨u,h1,h⟩:=BA h
  obtain ⟨v,h2,h⟩:=BA h
  split at h
  ·rename_i hb
   split at h
   ·simp at h
   ·rename_i gg t ht
    obtain ⟨rfl,h⟩:=BF h
    refine ⟨_,_,?_,h⟩
    unfold A5
    simp only[hop,h1,h2,QN ht,DI]
    rw[if_pos hb]
  ·simp at h
 ·rename_i op xt a1 y hop
  obtain ⟨u,h1,h⟩:=BA h
  split at h
  ·simp at h
  ·rename_i t ht
   exact ⟨_,_,by unfold A5;simp only[hop,h1,ht,DI],h⟩
 ·rename_i src dst a1 y hop
  obtain ⟨out,h2,h⟩:=K4 h
  exact ⟨out,true,by unfold A5;simp only[hop,h2],h⟩
 ·rename_i t l c y z hop
  split at h
  ·rename_i hs
   obtain ⟨out,h2,h⟩:=Jf h
   exact ⟨out,false,by unfold A5;simp only[hop,h2];rw[if_pos hs],h⟩
  ·simp at h
 ·rename_i t a1 lo hi r rs hop
  split at h
  ·obtain ⟨out,h2,h⟩:=El h
   exact ⟨out,true,by unfold A5;simp only[hop,h2],h⟩
  ·obtain ⟨out,h2,h⟩:=El h
   exact ⟨out,true,by unfold A5;simp only[hop,h2],h⟩
  ·obtain ⟨out,h2,h⟩:=El h
   exact ⟨out,true,by unfold A5;simp only[hop,h2],h⟩
  ·obtain ⟨out,h2,h⟩:=El h
   exact ⟨out,true,by unfold A5;simp only[hop,h2],h⟩
  ·simp at h
 ·rename_i s a1 f r hop
  obtain ⟨out,h2,h⟩:=M9 h
  exact ⟨out,false,by unfold A5;simp only[hop,h2],h⟩
 ·rename_i t a1 a2 r i hop
  obtain ⟨out,h2,h⟩:=JJ h
  exact ⟨out,true,by unfold A5;simp only[hop,h2],h⟩
 ·rename_i t a1 a2 r i hop
  obtain ⟨out,h2,h⟩:=Ny h
  exact ⟨out,false,by unfold A5;simp only[hop,h2],h⟩
 ·rename_i c rs hop
  split at h
  ·rename_i b hc
   split at h
   ·rename_i t r hty
    obtain ⟨out,h2,h⟩:=Po h
    exact ⟨out,true,by unfold A5;simp only[hop,hc,hty,h2],h⟩
   ·rename_i t1 t2 s y hty
    obtain ⟨out,h2,h⟩:=L6 h
    exact ⟨out,true,by unfold A5;simp only[hop,hc,hty,h2],h⟩
   ·obtain ⟨ts,h2,h⟩:=FQ h
    split at h
    ·rename_i t ts
     split at h
     ·simp at h
     ·rename_i r hr
      exact ⟨_,_,by unfold A5;simp only[hop,hc,h2,E7 hr,DI],h⟩
    ·simp at h
   ·obtain ⟨ts,h2,h⟩:=FQ h
    split at h
    ·rename_i t ts
     split at h
     ·simp at h
     ·rename_i r hr
      exact ⟨_,_,by unfold A5;simp only[hop,hc,h2,E7 hr,DI],h⟩
    ·simp at h
   ·simp at h
  ·rename_i f hc
   obtain ⟨out,u,h2,h⟩:=G4 hO h
   exact ⟨out,u,by unfold A5;simp only[hop,hc,h2],h⟩
  ·rename_i X hX hc
   split at h
   ·obtain ⟨out,u,h2,h⟩:=G4 hO h
    refine ⟨out,u,?_,h⟩
    unfold A5
    cases X with
    | func f=>exact absurd rfl (hX f)
    | _=>simp only[hop,hc,h2]
   ·obtain ⟨out,u,h2,h⟩:=G4 hO h
    refine ⟨out,u,?_,h⟩
    unfold A5
    cases X with
    | func f=>exact absurd rfl (hX f)
    | _=>simp only[hop,hc,h2]
   ·simp at h
  ·simp at h
 ·unfold fall at h
  split at h
  ·simp at h
  ·rename_i out u hr
   refine ⟨out,u,?_,h⟩
   rw[Nk]
   ·exact hr
   ·intro c hc
    simp_all
end
section
variable {β:Type} {E:Aj} {O:BZ} {cf:Nat→List Ae→Option C8} {o:Oper} {x:β}
theorem QF (hO:O.CfOk cf) {ops:Array Oper} {f:List Nat} {σ:AS} {k:D9→Option β} (hg:FL ops σ.env o=some (true,f)) (h:WX E O o f σ k=some x):∃ st,Cf E cf ops o σ=some st∧k st=some x:=by
 unfold WX at h
 obtain ⟨out,u,h1,h⟩:=Rc hO h
 split at h
 ·rename_i hfr
  refine ⟨_,?_,h⟩
  unfold Cf
  simp only[hg,h1]
  rw[if_pos hfr]
  rfl
 ·simp at h
theorem OE {a:Bool} {p:List Pm} {b:Bool} {dd:C4} {pin:Nat}:∀ {env:List (Nat × AA)} {d:Nat},AG env d = .val a p [.bool b] dd pin→SK env d b=env
 | [],d,h=>by simp[AG] at h
 | (j,s)::r,d,h=>by
   simp only[AG] at h
   simp only[SK]
   split at h
   ·rename_i e
    subst e h
    simp[AA.withBool]
   ·rename_i e
    have:Nat.beq j d=false:=by
     cases hb:Nat.beq j d with
     | true=>exact absurd (by simpa using hb) e
     | false=>rfl
    rw[this]
    simp only[OE h]
theorem O3 {ops:Array Oper} {σ:AS} {k:AS→Option β} (h:SY ops o σ k=some x):k σ=some x:=by
 unfold SY at h
 split at h
 ·exact h
 ·split at h
  ·simp at h
  split at h
  ·rename_i b _ _ hget
   rcases NF h with ⟨rfl,h⟩ | ⟨rfl,h⟩
   ·rw[OE hget] at h;exact h
   ·rw[OE hget] at h;exact h
  ·exact h
theorem PW (hO:O.CfOk cf) {ops:Array Oper} {σ:AS} {k:D9→Option β} (h:TV E O ops o σ k=some x):∃ st,Cf E cf ops o σ=some st∧k st=some x:=by
 unfold TV at h
 split at h
 ·simp at h
 ·rename_i f hg
  exact QF hO hg h
 ·rename_i f hg
  refine ⟨_,?_,h⟩
  unfold Cf
  simp only[hg]
theorem Hl (hO:O.CfOk cf) {ops:Array Oper}:∀ {l:List Oper} {σ:AS} {fs:List (List Nat × List Nat)} {k:AS→List (List Nat × List Nat)→Option β},I8 E O ops l σ fs k=some x →
  ∃ σ' fs',G6 E cf ops l σ=some (σ',fs')∧k σ' (fs.reverse++fs')=some x
 | [],σ,fs,k,h=>⟨σ,[],rfl,by simpa [I8] using h⟩
 | o::l,σ,fs,k,h=>by
   simp only[I8] at h
   obtain ⟨st,h1,h⟩:=PW hO (O3 h)
   obtain ⟨σ',fs',h2,h⟩:=Hl hO h
   refine ⟨σ',(st.foot,st.writes)::fs',by simp only[G6,h1,h2],?_⟩
   simpa using h
def HV (O:BZ) (E:Aj) (cf:Nat→List Ae→Option C8) (n:Nat) (keep:List (Nat × List Nat)):Code→Prop
 | .loop body=>∀ (β:Type) (σ:AS) (k:Ex→AS→Option β) (x:β),O.lp (VB body) (settle (BQ keep (Bg body)) σ) k=some x →
    ∃ ex σ',Ab E cf n keep (.loop body) σ=some (ex,σ')∧k ex σ'=some x
 | .seq a b=>HV O E cf n keep a∧HV O E cf n keep b
 | .cond _ a b=>HV O E cf n keep a∧HV O E cf n keep b
 | .block _ a=>HV O E cf n keep a
 | _=>True
theorem KD (hO:O.CfOk cf) {n:Nat} {keep:List (Nat × List Nat)}:∀ {c:Code} {σ:AS} {k:Ex→AS→Option β},HV O E cf n keep c→E5 E O keep c σ k=some x →
  ∃ ex σ',Ab E cf n keep c σ=some (ex,σ')∧k ex σ'=some x:=by
 intro c
 induction c with
 | skip=>intro σ k _ h;exact ⟨_,_,rfl,h⟩
 | region id ops draw =>
   intro σ k _ h
   simp only[E5,rg] at h
   obtain ⟨σ',fs',h1,h⟩:=Hl hO h
   split at h
   ·rename_i hr
    refine ⟨_,_,?_,h⟩
    simp only[Ab,JM,h1]
    rw[if_pos (by simpa using hr)]
   ·simp at h
 | seq a b iha ihb =>
   intro σ k hl h
   simp only[E5] at h
   obtain ⟨ex,σ',h1,h⟩:=iha hl.1 h
   cases ex with
   | normal =>
     obtain ⟨ex2,σ2,h2,h⟩:=ihb hl.2 h
     exact ⟨ex2,σ2,by simp only[Ab,h1,h2],h⟩
   | exit id=>exact ⟨_,_,by simp only[Ab,h1],h⟩
   | ret=>exact ⟨_,_,by simp only[Ab,h1],h⟩
 | cond c a b iha ihb =>
   intro σ k hl h
   simp only[E5] at h
   obtain ⟨t,h1,h⟩:=BA h
   split at h
   ·rename_i v
    rcases NF h with ⟨rfl,h⟩ | ⟨rfl,h⟩
    ·obtain ⟨ex,σ',h2,h⟩:=iha hl.1 h
     exact ⟨ex,σ',by simp only[Ab,h1,h2],h⟩
    ·obtain ⟨ex,σ',h2,h⟩:=ihb hl.2 h
     exact ⟨ex,σ',by simp only[Ab,h1,h2],h⟩
   ·simp at h
 | block id a iha =>
   intro σ k hl h
   simp only[E5] at h
   obtain ⟨ex,σ',h1,h⟩:=iha hl h
   cases ex with
   | normal=>exact ⟨_,_,by simp only[Ab,h1],h⟩
   | exit id' =>
     simp only at h
     split at h
     ·rename_i e
      exact ⟨_,_,by simp only[Ab,h1];rw[if_pos e],h⟩
     ·rename_i e
      exact ⟨_,_,by simp only[Ab,h1];rw[if_neg e],h⟩
   | ret=>exact ⟨_,_,by simp only[Ab,h1],h⟩
 | loop a _ =>
   intro σ k hl h
   exact hl _ _ _ _ h
 | exit id=>intro σ k _ h;exact ⟨_,_,rfl,h⟩
 | ret=>intro σ k _ h;exact ⟨_,_,rfl,h⟩
 | _=>intro σ k _ h;simp[E5] at h
theorem RW {V X:Type} {n:Nat} {keep:List (Nat × List Nat)} {body:Code} (enc:V→AS) (de:AS→Option V) (hde:∀ σ v,de σ=some v→σ=enc v) (L:Nat→V→Option X) (dec:Ex→AS→Option X)
  (hO:O.CfOk cf) (hl:HV O E cf n keep body) (h0:∀ v,L 0 v=none)
  (hs:∀ m v,L (m+1) v=E5 E O keep body (enc v) (fun ex σ'=>match ex with
    | .normal=>bd (de (settle (BQ keep (Bg body)) σ')) (L m)
    | .exit id=>dec (.exit id) (settle (BQ keep (I6 body)) σ')
    | .ret=>dec .ret (settle (BQ keep (I6 body)) σ'))) :
  ∀ m v x,L m v=some x→∃ ex σ',Gx (BQ keep (I6 body)) (Iu m (settle (BQ keep (Bg body))) (Ab E cf n keep body) (enc v))=some (ex,σ')∧dec ex σ'=some x:=by
 intro m
 induction m with
 | zero=>intro v x h;rw[h0] at h;simp at h
 | succ m ih =>
   intro v x h
   rw[hs] at h
   obtain ⟨ex,σ',h1,h⟩:=KD hO hl h
   cases ex with
   | normal =>
     obtain ⟨v',hv,h⟩:=Ch h
     obtain ⟨ex2,σ2,h2,h3⟩:=ih v' x h
     refine ⟨ex2,σ2,?_,h3⟩
     simp only[Iu,h1,hde _ _ hv,h2]
   | exit id=>exact ⟨_,_,by simp only[Iu,h1,Gx],h⟩
   | ret=>exact ⟨_,_,by simp only[Iu,h1,Gx],h⟩
theorem RD {n f:Nat} {as:List Ae} {c:Code} {modes:List B4} {outs:List Nat} {results:List (Nat × Option (Bool × Nat))} {keep:List (Nat × List Nat)} {k:C8→Option β} (hf:E.fn f=some (.code c modes outs results keep))
  (hO:O.CfOk (AZ E n)) (hl:HV O E (AZ E n) n keep c) (h:YW E O f as k=some x):∃ r,AZ E (n+1) f as=some r∧k r=some x:=by
 unfold YW at h
 simp only[hf] at h
 split at h
 ·rename_i hs
  obtain ⟨ex,σ',h1,h⟩:=KD hO hl h
  split at h
  ·simp at h
  ·rename_i r hr
   refine ⟨r,?_,h⟩
   simp only[AZ,hf,h1]
   rw[if_pos hs];exact hr
 ·simp at h
end
structure EY (V:Type) where
 pk:V→List A8
 up:List A8→Option V
 ok:∀ ls v,up ls=some v→ls=pk v:=by intro _ _ h;split at h <;>cases h;rfl
def WP:Ex→Ex→Bool
 | .normal,.normal=>true
 | .exit a,.exit b=>Nat.beq a b
 | .ret,.ret=>true
 | _,_=>false
theorem T8 {a b:Ex} (h:WP a b=true):a=b:=by
 cases a <;>cases b <;>simp[WP] at h <;>first | rfl | rw[h]
def sm {A B γ:Type} (x:A ⊕ B) (f:A→γ) (g:B→γ):γ:=match x with
 | .inl a=>f a
 | .inr b=>g b
structure Fa (X:Type) where
 dec:Ex→AS→Option X
 out : {β:Type}→X→(Ex→AS→Option β)→Option β
 ok:∀ ex σ x,dec ex σ=some x→∀ (β:Type) (k:Ex→AS→Option β),out x k=k ex σ
def Fa.one {A:Type} (e:Ex) (P:AS) (S:EY A):Fa A where
 dec:=fun ex σ=>match WP e ex with
  | true=>bd (MT P σ) S.up
  | false=>none
 out:=fun x k=>k e (Rs P (S.pk x))
 ok:=by
  intro ex σ x h β k
  split at h
  ·rename_i he
   obtain ⟨ls,h1,h2⟩:=Ch h
   rw[T8 he,← S.ok _ _ h2,NE h1]
  ·simp at h
def Fa.or {A B:Type} (a:Fa A) (b:Fa B):Fa (A ⊕ B) where
 dec:=fun ex σ=>match a.dec ex σ with
  | some x=>some (.inl x)
  | none=>match b.dec ex σ with
    | some y=>some (.inr y)
    | none=>none
 out:=fun x k=>sm x (fun x=>a.out x k) (fun y=>b.out y k)
 ok:=by
  intro ex σ x h β k
  split at h
  ·rename_i y hy
   simp only[zS] at h
   subst h
   exact a.ok _ _ _ hy _ _
  ·split at h
   ·rename_i y hy
    simp only[zS] at h
    subst h
    exact b.ok _ _ _ hy _ _
   ·simp at h
structure Ak (X:Type) where
 dec:C8→Option X
 out : {β:Type}→X→(C8→Option β)→Option β
 enc:X→C8
 ok:∀ r x,dec r=some x→enc x=r
 ok':∀ x (β:Type) (k:C8→Option β),out x k=k (enc x)
def Ak.one {A:Type} (P:C8) (S:EY A):Ak A where
 dec:=fun r=>bd (Y7 P r) S.up
 out:=fun x k=>k (YY P (S.pk x))
 enc:=fun x=>YY P (S.pk x)
 ok:=by
  intro r x h
  obtain ⟨ls,h1,h2⟩:=Ch h
  rw[← S.ok _ _ h2,Vq h1]
 ok' :=fun _ _ _=>rfl
def Ak.or {A B:Type} (a:Ak A) (b:Ak B):Ak (A ⊕ B) where
 dec:=fun r=>match a.dec r with
  | some x=>some (.inl x)
  | none=>match b.dec r with
    | some y=>some (.inr y)
    | none=>none
 out:=fun x k=>sm x (fun x=>a.out x k) (fun y=>b.out y k)
 enc:=fun x=>sm x a.enc b.enc
 ok:=by
  intro r x h
  split at h
  ·rename_i y hy
   simp only[zS] at h
   subst h
   exact a.ok _ _ hy
  ·split at h
   ·rename_i y hy
    simp only[zS] at h
    subst h
    exact b.ok _ _ hy
   ·simp at h
 ok' :=by
  intro x β k
  cases x with
  | inl x=>exact a.ok' x β k
  | inr x=>exact b.ok' x β k
structure BX (E:Aj) where
 no:Nat
 fits:List Ae→Bool
 W : {β:Type}→Nat→List Ae→(C8→Option β)→Option β
 ok:∀ n (β:Type) as (k:C8→Option β) x,W n as k=some x→∃ r,AZ E n no as=some r∧k r=some x
def US {E:Aj} {β:Type}:List (BX E)→Nat→Nat→List Ae→(C8→Option β)→Option β
 | [],_,_,_,_=>none
 | w::ws,n,f,as,k=>match Nat.beq w.no f&&w.fits as with
   | true=>w.W n as k
   | false=>US ws n f as k
structure Gi where
 no:Nat
 W : {β:Type}→AS→(Ex→AS→Option β)→Option β
def YQ {β:Type}:List Gi→Nat→AS→(Ex→AS→Option β)→Option β
 | [],_,_,_=>none
 | w::ws,i,σ,k=>match Nat.beq w.no i with
   | true=>w.W σ k
   | false=>YQ ws i σ k
def AU {E:Aj} (fs:List (BX E)) (ls:List Gi) (n:Nat):BZ:=⟨fun f as k=>US fs n f as k,fun i σ k=>YQ ls i σ k⟩
theorem PF {E:Aj} (fs:List (BX E)) (ls:List Gi) (n:Nat):(AU fs ls n).CfOk (AZ E n):=by
 intro β f as k x h
 simp only[AU] at h
 induction fs with
 | nil=>simp[US] at h
 | cons w ws ih =>
   simp only[US] at h
   split at h
   ·rename_i e
    simp only[zB,Nat.beq_eq] at e
    obtain ⟨rfl,-⟩:=e
    exact w.ok n β as k x h
   ·exact ih h
def Gi.of {V X:Type} (no:Nat) (P:AS) (S:EY V) (A:Fa X) (F:V→Option X):Gi:=⟨no,fun σ k=>bd (MT P σ) fun ls=>bd (S.up ls) fun v=>bd (F v) fun x=>A.out x k⟩
theorem UJ {E:Aj} {O:BZ} {cf:Nat→List Ae→Option C8} {V X:Type} {n:Nat} {keep:List (Nat × List Nat)} {body:Code} (P:AS) (S:EY V) (A:Fa X) (L:Nat→V→Option X)
  (hO:O.CfOk cf) (hl:HV O E cf n keep body) (h0:∀ v,L 0 v=none)
  (hs:∀ m v,L (m+1) v=E5 E O keep body (Rs P (S.pk v)) (fun ex σ'=>match ex with
    | .normal=>bd (MT P (settle (BQ keep (Bg body)) σ')) fun ls=>bd (S.up ls) (L m)
    | .exit id=>A.dec (.exit id) (settle (BQ keep (I6 body)) σ')
    | .ret=>A.dec .ret (settle (BQ keep (I6 body)) σ')))
  (hW:∀ (β:Type) (σ:AS) (k:Ex→AS→Option β),O.lp (VB body) σ k=bd (MT P σ) fun ls=>bd (S.up ls) fun v=>bd (L n v) fun x=>A.out x k):HV O E cf n keep (.loop body):=by
 have hL:=RW (cf:=cf) (n:=n) (fun v=>Rs P (S.pk v)) (fun σ=>bd (MT P σ) S.up) (fun σ v h=>by
  obtain ⟨ls,h1,h2⟩:=Ch h
  rw[← S.ok _ _ h2,NE h1]) L A.dec hO hl h0 (fun m v=>by
   rw[hs]
   congr 1
   funext ex σ'
   cases ex with
   | normal =>
     simp only
     cases MT P (settle (BQ keep (Bg body)) σ') <;>rfl
   | _=>rfl)
 intro β σ k x h
 rw[hW] at h
 obtain ⟨ls,h1,h⟩:=Ch h
 obtain ⟨v,h2,h⟩:=Ch h
 obtain ⟨y,h3,h⟩:=Ch h
 obtain ⟨ex,σ',h4,h5⟩:=hL n v y h3
 rw[A.ok _ _ _ h5] at h
 refine ⟨ex,σ',?_,h⟩
 simp only[Ab]
 rw[← NE h1,S.ok _ _ h2,h4]
theorem S8 {O:BZ} {E:Aj} {cf:Nat→List Ae→Option C8} {n:Nat} {keep:List (Nat × List Nat)}:∀ {c:Code},(∀ b∈Bi c,HV O E cf n keep (.loop b))→HV O E cf n keep c:=by
 intro c
 induction c with
 | loop b _=>intro h;exact h b (by simp[Bi])
 | seq a b iha ihb=>intro h;exact ⟨iha fun x hx=>h x (by simp[Bi,hx]),ihb fun x hx=>h x (by simp[Bi,hx])⟩
 | cond _ a b iha ihb=>intro h;exact ⟨iha fun x hx=>h x (by simp[Bi,hx]),ihb fun x hx=>h x (by simp[Bi,hx])⟩
 | block _ a iha=>intro h;exact iha h
 | _=>intro h;trivial
inductive Mj (O:BZ) (E:Aj) (cf:Nat→List Ae→Option C8) (n:Nat) (keep:List (Nat × List Nat)):List Code→Prop
 | nil:Mj O E cf n keep []
 | cons {b bs} (h:HV O E cf n keep (.loop b)) (t:Mj O E cf n keep bs):Mj O E cf n keep (b::bs)
theorem Qi {O:BZ} {E:Aj} {cf:Nat→List Ae→Option C8} {n:Nat} {keep:List (Nat × List Nat)} {c:Code} {bs:List Code} (h:Bi c=bs) (ha:Mj O E cf n keep bs):HV O E cf n keep c:=by
 refine S8 ?_
 rw[h]
 clear h
 induction ha with
 | nil=>simp
 | cons h _ ih =>
   intro b hb
   rw[mem_cons] at hb
   rcases hb with rfl | hb
   ·exact h
   ·exact ih b hb
def Bm {E:Aj} {V X:Type} (no:Nat) (P:List Ae) (S:EY V) (A:Ak X) (F:Nat→V→Option X) (h:∀ n v x,F n v=some x→AZ E n no (F7 P (S.pk v))=some (A.enc x)):BX E where
 no:=no
 fits:=fun as=>(GF P as []).isSome
 W:=fun n as k=>bd (GF P as []) fun ls=>bd (S.up ls) fun v=>bd (F n v) fun x=>A.out x k
 ok:=by
  intro n β as k x hh
  obtain ⟨ls,h1,hh⟩:=Ch hh
  obtain ⟨v,h2,hh⟩:=Ch hh
  obtain ⟨y,h3,hh⟩:=Ch hh
  have:=h n v y h3
  rw[← S.ok _ _ h2,Uh h1] at this
  refine ⟨_,this,?_⟩
  rw[A.ok'] at hh;exact hh
theorem Uk {E:Aj} {V X:Type} {no:Nat} {P:List Ae} {S:EY V} {A:Ak X} {F:Nat→V→Option X} {c:Code} {modes:List B4} {outs:List Nat} {results:List (Nat × Option (Bool × Nat))} {keep:List (Nat × List Nat)} (O:Nat→BZ)
  (hf:E.fn no=some (.code c modes outs results keep)) (hO:∀ n,(O n).CfOk (AZ E n)) (hl:∀ n,HV (O n) E (AZ E n) n keep c)
  (h0:∀ v,F 0 v=none) (hs:∀ n v,F (n+1) v=YW E (O n) no (F7 P (S.pk v)) A.dec) :
  ∀ n v x,F n v=some x→AZ E n no (F7 P (S.pk v))=some (A.enc x):=by
 intro n v x h
 cases n with
 | zero=>rw[h0] at h;simp at h
 | succ n =>
   rw[hs] at h
   obtain ⟨r,h1,h2⟩:=RD hf (hO n) (hl n) h
   rw[h1,A.ok _ _ h2]
structure ZY (E:Aj) (n:Nat) where
 no:Nat
 fits:List Ae→Bool
 W : {β:Type}→List Ae→(C8→Option β)→Option β
 ok:∀ (β:Type) as (k:C8→Option β) x,W as k=some x→∃ r,AZ E n no as=some r∧k r=some x
def BX.at {E:Aj} (w:BX E) (n:Nat):ZY E n:=⟨w.no,w.fits,fun as k=>w.W n as k,fun β as k x h=>w.ok n β as k x h⟩
def ML (t:T):Option (List (Bool × List Pm × List T)):=some [(false,[.leaf],[t])]
def GM:List T→Option (List (Bool × List Pm × List T))
 | [.int .u32 n]=>if 0≤n then ML (.flt .f32 (Au .f32 n.toNat)) else none
 | _=>none
def GV:List T→Option (List (Bool × List Pm × List T))
 | [.int .u64 n]=>if 0≤n then ML (.flt .f64 (Au .f64 n.toNat)) else none
 | [.opq]=>ML (.flt .f64 (F8 .f64))
 | _=>none
def K2:List T→Option (List (Bool × List Pm × List T))
 | [.flt .f32 x]=>if isNaN .f32 x then none else ML (.int .u32 x)
 | _=>none
def K5:List T→Option (List (Bool × List Pm × List T))
 | [.flt .f64 x]=>if isNaN .f64 x then ML .opq else ML (.int .u64 x)
 | _=>none
def YJ (x:Nat):Nat:=if isNaN .f64 x then F8 .f64 else x % 9223372036854775808
def Vm:List T→Option (List (Bool × List Pm × List T))
 | [.flt .f64 x]=>if x<18446744073709551616 then ML (.flt .f64 (YJ x)) else none
 | _=>none
def JX:List T→Option (List (Bool × List Pm × List T))
 | [.flt .f64 x,.flt .f64 s]=>if isNaN .f64 s then none else if isNaN .f64 x then none else
     if x<18446744073709551616∧s<18446744073709551616 then ML (.flt .f64 (x % 9223372036854775808+s / 9223372036854775808 * 9223372036854775808)) else none
 | _=>none
def DE (way:Ieee.Toward) (x:Nat):Nat:=match FloatKind.f64.decode x with
 | .nan _ _=>F8 .f64
 | d=>FloatKind.f64.encode (d.integral way)
def HM (way:Ieee.Toward):List T→Option (List (Bool × List Pm × List T))
 | [.flt .f64 x]=>ML (.flt .f64 (DE way x))
 | _=>none
def YC:List T→Option (List (Bool × List Pm × List T))
 | [.flt .f64 x]=>ML (R3 .f64 (FloatKind.f64.format.sqrt x))
 | _=>none
def VI (W:Nat):List Ae→Option C8
 | [⟨.io,⟨false,[.sl .own el],[.lst n cs]⟩⟩,⟨.val,⟨false,[.leaf],[.int .i64 i]⟩⟩,⟨.val,⟨false,[.leaf],[.int .i64 j]⟩⟩] =>
   if el.length=W∧0<W∧A1 0 el=true∧0≤i∧i≤j∧j≤(n:Int) then
    some ⟨[⟨false,[.sl .own el],[.lst (n - (j.toNat - i.toNat)) (cs.take (i.toNat * W)++cs.drop (j.toNat * W))]⟩],[some ⟨false,[.dead],[.lst n cs]⟩,none,none]⟩
   else none
 | _=>none
def WQ:List Ae→Option C8
 | [⟨.io,⟨false,[.sl .own [.leaf]],[.lst n cs]⟩⟩]=>if n<4611686018427387904 then some ⟨[],[some ⟨false,[.sl .own [.leaf]],[.lst n cs.reverse]⟩]⟩ else none
 | _=>none
def LP (W:Nat) (p:List T→Option Bool):Nat→List T→Option (Nat × List T)
 | 0,_=>some (0,[])
 | n+1,cs=>match p (cs.take W) with
   | none=>none
   | some b=>match LP W p n (cs.drop W) with
     | none=>none
     | some (m,ds)=>some (match b with
       | true=>(m,ds)
       | false=>(m+1,cs.take W++ds))
def Ms (fc:Nat) (el ps:List Pm) (pr:List T→List T→Option Bool):List Ae→Option C8
 | [⟨.io,⟨false,[.sl .own el'],[.lst n cs]⟩⟩,⟨.val,⟨false,[.fn qs],[.fn f ts]⟩⟩] =>
   if pbeqs el' el=true∧0<el.length∧A1 0 el=true∧f=fc∧pbeqs qs ps=true∧n<4611686018427387904 then match LP el.length (pr ts) n cs with
    | none=>none
    | some (m,ds)=>some ⟨[⟨false,[.sl .own el],[.lst m ds]⟩],[some ⟨false,[.dead],[.lst n cs]⟩,none]⟩
   else none
 | _=>none
def Nb:List T→List T→Option Bool
 | [.ref [.int .i64 k]],.int .i64 a::_=>some (a==k)
 | _,_=>none
def Px:List T→List T→Option Bool
 | [],[.int .i64 k,_,.lst _ xs]=>match k==0 with
   | false=>some false
   | true=>match xs with
     | .flt .f32 x::_=>some (FloatKind.f32.format.order x 1065353216==some .eq)
     | _=>none
 | _,_=>none
def Nf (el:List Pm):List Ae→Option C8
 | [⟨.io,⟨false,[.sl .own a],[.lst n cs]⟩⟩,⟨.val,⟨false,[.leaf],[.int .i64 i]⟩⟩,⟨.io,⟨false,[.sl .own b],[.lst m ds]⟩⟩] =>
   if pbeqs a el=true∧pbeqs b el=true∧0<el.length∧A1 0 el=true∧m=1∧0≤i∧i≤(n:Int)∧0<n∧n<1000000 then
    some ⟨[⟨false,[.sl .own el],[.lst (n+1) (cs.take (i.toNat * el.length)++ds++cs.drop (i.toNat * el.length))]⟩],[some ⟨false,[.dead],[.lst n cs]⟩,none,some ⟨false,[.dead],[.lst m ds]⟩]⟩
   else none
 | _=>none
def Fo:EY Nat where
 pk:=fun v=>[.flt v]
 up:=fun ls=>match ls with
  | [.flt a]=>some a
  | _=>none
 ok:=by
  intro ls v h
  split at h
  ·cases h;rfl
  ·cases h
def Rm:EY Int where
 pk:=fun v=>[.int v]
 up:=fun ls=>match ls with
  | [.int a]=>some a
  | _=>none
 ok:=by
  intro ls v h
  split at h
  ·cases h;rfl
  ·cases h
def Uz:EY (Nat × Nat) where
 pk:=fun v=>[.flt v.1,.flt v.2]
 up:=fun ls=>match ls with
  | [.flt a,.flt b]=>some (a,b)
  | _=>none
 ok:=by
  intro ls v h
  split at h
  ·cases h;rfl
  ·cases h
def IE (k:FloatKind):Ae:=⟨.val,⟨false,[.leaf],[.flt k 0]⟩⟩
def L9 (k:IntKind):Ae:=⟨.val,⟨false,[.leaf],[.int k 0]⟩⟩
def NU (k:FloatKind) (n:Nat):C8:=⟨[⟨false,[.leaf],[.flt k 0]⟩],List.replicate n none⟩
def XC (k:IntKind):C8:=⟨[⟨false,[.leaf],[.int k 0]⟩],[none]⟩
def Iw (n:Nat) (x:Nat):Option Int:=match n with
 | 0=>none
 | _+1=>if isNaN .f32 x then none else some (x:Int)
def Id (n:Nat) (x:Nat):Option Int:=match n with
 | 0=>none
 | _+1=>if isNaN .f64 x then none else some (x:Int)
def Ec (n:Nat) (i:Int):Option Nat:=match n with
 | 0=>none
 | _+1=>if 0≤i then some (Au .f32 i.toNat) else none
def Ee (n:Nat) (i:Int):Option Nat:=match n with
 | 0=>none
 | _+1=>if 0≤i then some (Au .f64 i.toNat) else none
def UF (n:Nat) (x:Nat):Option Nat:=match n with
 | 0=>none
 | _+1=>if x<18446744073709551616 then some (YJ x) else none
def HL (n:Nat) (x s:Nat):Option Nat:=match n with
 | 0=>none
 | _+1=>if isNaN .f64 s then none else if isNaN .f64 x then none else
    if x<18446744073709551616∧s<18446744073709551616 then some (x % 9223372036854775808+s / 9223372036854775808 * 9223372036854775808) else none
def Dc (n:Nat) (x:Nat):Option Nat:=match n with
 | 0=>none
 | _+1=>some (DE .down x)
def Dh (n:Nat) (x:Nat):Option Nat:=match n with
 | 0=>none
 | _+1=>some (DE .zero x)
def DT (n:Nat) (x:Nat):Option Nat:=match n with
 | 0=>none
 | _+1=>some (DE .even x)
def YI (x:Nat):Nat:=match FloatKind.f64.format.sqrt x with
 | some b=>b
 | none=>F8 .f64
def Qz (n:Nat) (x:Nat):Option Nat:=match n with
 | 0=>none
 | _+1=>some (YI x)
section
variable {E:Aj} (no:Nat)
noncomputable def Iw.w (h:E.fn no=some (.ext K2)):BX E:=Bm no [IE .f32] Fo (.one (XC .u32) Rm) Iw (by
 intro n x r hh
 cases n with
 | zero=>simp[Iw] at hh
 | succ n =>
   simp only[Iw] at hh
   split at hh
   ·simp at hh
   ·rename_i hn
    simp only[zS] at hh
    subst hh
    have:AZ E (n+1) no (F7 [IE .f32] (Fo.pk x))=(match K2 [.flt .f32 x] with
     | none=>none
     | some rs=>some ⟨rs.map fun x=>⟨x.1,x.2.1,x.2.2⟩,[none]⟩):=by simp only[AZ,h];rfl
    rw[this]
    simp only[K2,hn,if_false]
    rfl)
noncomputable def Id.w (h:E.fn no=some (.ext K5)):BX E:=Bm no [IE .f64] Fo (.one (XC .u64) Rm) Id (by
 intro n x r hh
 cases n with
 | zero=>simp[Id] at hh
 | succ n =>
   simp only[Id] at hh
   split at hh
   ·simp at hh
   ·rename_i hn
    simp only[zS] at hh
    subst hh
    have:AZ E (n+1) no (F7 [IE .f64] (Fo.pk x))=(match K5 [.flt .f64 x] with
     | none=>none
     | some rs=>some ⟨rs.map fun x=>⟨x.1,x.2.1,x.2.2⟩,[none]⟩):=by simp only[AZ,h];rfl
    rw[this]
    simp only[K5,hn,if_false]
    rfl)
noncomputable def Ec.w (h:E.fn no=some (.ext GM)):BX E:=Bm no [L9 .u32] Rm (.one (NU .f32 1) Fo) Ec (by
 intro n x r hh
 cases n with
 | zero=>simp[Ec] at hh
 | succ n =>
   simp only[Ec] at hh
   split at hh
   ·rename_i hn
    simp only[zS] at hh
    subst hh
    have:AZ E (n+1) no (F7 [L9 .u32] (Rm.pk x))=(match GM [.int .u32 x] with
     | none=>none
     | some rs=>some ⟨rs.map fun x=>⟨x.1,x.2.1,x.2.2⟩,[none]⟩):=by simp only[AZ,h];rfl
    rw[this]
    simp only[GM,hn,if_true]
    rfl
   ·simp at hh)
noncomputable def Ee.w (h:E.fn no=some (.ext GV)):BX E:=Bm no [L9 .u64] Rm (.one (NU .f64 1) Fo) Ee (by
 intro n x r hh
 cases n with
 | zero=>simp[Ee] at hh
 | succ n =>
   simp only[Ee] at hh
   split at hh
   ·rename_i hn
    simp only[zS] at hh
    subst hh
    have:AZ E (n+1) no (F7 [L9 .u64] (Rm.pk x))=(match GV [.int .u64 x] with
     | none=>none
     | some rs=>some ⟨rs.map fun x=>⟨x.1,x.2.1,x.2.2⟩,[none]⟩):=by simp only[AZ,h];rfl
    rw[this]
    simp only[GV,hn,if_true]
    rfl
   ·simp at hh)
noncomputable def UF.w (h:E.fn no=some (.ext Vm)):BX E:=Bm no [IE .f64] Fo (.one (NU .f64 1) Fo) UF (by
 intro n x r hh
 cases n with
 | zero=>simp[UF] at hh
 | succ n =>
   simp only[UF] at hh
   split at hh
   ·rename_i hn
    simp only[zS] at hh
    subst hh
    have:AZ E (n+1) no (F7 [IE .f64] (Fo.pk x))=(match Vm [.flt .f64 x] with
     | none=>none
     | some rs=>some ⟨rs.map fun x=>⟨x.1,x.2.1,x.2.2⟩,[none]⟩):=by simp only[AZ,h];rfl
    rw[this]
    simp only[Vm,hn,if_true]
    rfl
   ·simp at hh)
noncomputable def HL.w (h:E.fn no=some (.ext JX)):BX E:=Bm no [IE .f64,IE .f64] Uz (.one (NU .f64 2) Fo) (fun n v=>HL n v.1 v.2) (by
 intro n x r hh
 cases n with
 | zero=>simp[HL] at hh
 | succ n =>
   simp only[HL] at hh
   have:AZ E (n+1) no (F7 [IE .f64,IE .f64] (Uz.pk x))=(match JX [.flt .f64 x.1,.flt .f64 x.2] with
     | none=>none
     | some rs=>some ⟨rs.map fun x=>⟨x.1,x.2.1,x.2.2⟩,[none,none]⟩):=by simp only[AZ,h];rfl
   rw[this]
   simp only[JX]
   split at hh
   ·simp at hh
   ·rename_i hn
    split at hh
    ·simp at hh
    ·rename_i hx
     split at hh
     ·rename_i hb
      simp only[zS] at hh
      subst hh
      simp only[hn,hx,hb,if_false,if_true]
      rfl
     ·simp at hh)
theorem HA {way:Ieee.Toward} (h:E.fn no=some (.ext (HM way))) (n:Nat) (x:Nat):AZ E (n+1) no (F7 [IE .f64] (Fo.pk x))=some ((Ak.one (NU .f64 1) Fo).enc (DE way x)):=by
 simp only[AZ,h];rfl
noncomputable def Dc.w (h:E.fn no=some (.ext (HM .down))):BX E:=Bm no [IE .f64] Fo (.one (NU .f64 1) Fo) Dc (by
 intro n x r hh
 cases n with
 | zero=>simp[Dc] at hh
 | succ n =>
   simp only[Dc,zS] at hh
   rw[← hh];exact HA no h n x)
noncomputable def Dh.w (h:E.fn no=some (.ext (HM .zero))):BX E:=Bm no [IE .f64] Fo (.one (NU .f64 1) Fo) Dh (by
 intro n x r hh
 cases n with
 | zero=>simp[Dh] at hh
 | succ n =>
   simp only[Dh,zS] at hh
   rw[← hh];exact HA no h n x)
noncomputable def DT.w (h:E.fn no=some (.ext (HM .even))):BX E:=Bm no [IE .f64] Fo (.one (NU .f64 1) Fo) DT (by
 intro n x r hh
 cases n with
 | zero=>simp[DT] at hh
 | succ n =>
   simp only[DT,zS] at hh
   rw[← hh];exact HA no h n x)
noncomputable def Qz.w (h:E.fn no=some (.ext YC)):BX E:=Bm no [IE .f64] Fo (.one (NU .f64 1) Fo) Qz (by
 intro n x r hh
 cases n with
 | zero=>simp[Qz] at hh
 | succ n =>
   simp only[Qz,zS] at hh
   rw[← hh]
   simp only[AZ,h]
   rfl)
end
def S3:EY (Nat × List T × Int × Int) where
 pk:=fun v=>[.lst v.1 v.2.1,.int v.2.2.1,.int v.2.2.2]
 up:=fun ls=>match ls with
  | [.lst a b,.int c,.int d]=>some (a,b,c,d)
  | _=>none
 ok:=by
  intro ls v h
  split at h
  ·cases h;rfl
  ·cases h
def Sl:EY (Nat × List T × Nat × List T) where
 pk:=fun v=>[.lst v.1 v.2.1,.lst v.2.2.1 v.2.2.2]
 up:=fun ls=>match ls with
  | [.lst a b,.lst c d]=>some (a,b,c,d)
  | _=>none
 ok:=by
  intro ls v h
  split at h
  ·cases h;rfl
  ·cases h
def KT (W n k:Nat) (cs:List T) (i j:Int):Option (Nat × List T × Nat × List T):=match n with
 | 0=>none
 | _+1=>if 0≤i∧i≤j∧j≤(k:Int) then some (k - (j.toNat - i.toNat),cs.take (i.toNat * W)++cs.drop (j.toNat * W),k,cs) else none
noncomputable def KT.w {E:Aj} (W:Nat) (el:List Pm) (hW:el.length=W) (h0:0<W) (hf:A1 0 el=true) (no:Nat) (h:E.fn no=some (.sem [.io,.val,.val] (VI W))):BX E :=
 Bm no [⟨.io,⟨false,[.sl .own el],[.lst 0 []]⟩⟩,L9 .i64,L9 .i64] S3 (.one ⟨[⟨false,[.sl .own el],[.lst 0 []]⟩],[some ⟨false,[.dead],[.lst 0 []]⟩,none,none]⟩ Sl) (fun n v=>KT W n v.1 v.2.1 v.2.2.1 v.2.2.2) (by
 intro n v r hh
 obtain ⟨k,cs,i,j⟩:=v
 cases n with
 | zero=>simp[KT] at hh
 | succ n =>
   simp only[KT] at hh
   split at hh
   ·rename_i hc
    simp only[zS] at hh
    subst hh
    have:AZ E (n+1) no (F7 [⟨.io,⟨false,[.sl .own el],[.lst 0 []]⟩⟩,L9 .i64,L9 .i64] (S3.pk (k,cs,i,j)))=VI W [⟨.io,⟨false,[.sl .own el],[.lst k cs]⟩⟩,⟨.val,⟨false,[.leaf],[.int .i64 i]⟩⟩,⟨.val,⟨false,[.leaf],[.int .i64 j]⟩⟩]:=by simp only[AZ,h];rfl
    rw[this]
    simp only[VI]
    rw[if_pos ⟨hW,h0,hf,hc⟩]
    rfl
   ·simp at hh)
def PD:EY (Nat × List T) where
 pk:=fun v=>[.lst v.1 v.2]
 up:=fun ls=>match ls with
  | [.lst a b]=>some (a,b)
  | _=>none
 ok:=by
  intro ls v h
  split at h
  ·cases h;rfl
  ·cases h
def I5 (n k:Nat) (cs:List T):Option (Nat × List T):=match n with
 | 0=>none
 | _+1=>if k<4611686018427387904 then some (k,cs.reverse) else none
noncomputable def I5.w {E:Aj} (no:Nat) (h:E.fn no=some (.sem [.io] WQ)):BX E :=
 Bm no [⟨.io,⟨false,[.sl .own [.leaf]],[.lst 0 []]⟩⟩] PD (.one ⟨[],[some ⟨false,[.sl .own [.leaf]],[.lst 0 []]⟩]⟩ PD) (fun n v=>I5 n v.1 v.2) (by
 intro n v r hh
 obtain ⟨k,cs⟩:=v
 cases n with
 | zero=>simp[I5] at hh
 | succ n =>
   simp only[I5] at hh
   split at hh
   ·rename_i hc
    simp only[zS] at hh
    subst hh
    have:AZ E (n+1) no (F7 [⟨.io,⟨false,[.sl .own [.leaf]],[.lst 0 []]⟩⟩] (PD.pk (k,cs)))=WQ [⟨.io,⟨false,[.sl .own [.leaf]],[.lst k cs]⟩⟩]:=by simp only[AZ,h];rfl
    rw[this]
    simp only[WQ]
    rw[if_pos hc]
    rfl
   ·simp at hh)
def U5:EY (Nat × List T × Int) where
 pk:=fun v=>[.lst v.1 v.2.1,.int v.2.2]
 up:=fun ls=>match ls with
  | [.lst a b,.int c]=>some (a,b,c)
  | _=>none
 ok:=by
  intro ls v h
  split at h
  ·cases h;rfl
  ·cases h
def KY (W:Nat) (p:List T→Option Bool) (k:Nat) (cs:List T):Option (Nat × List T × Nat × List T) :=
 if k<4611686018427387904 then match LP W p k cs with
  | none=>none
  | some (m,ds)=>some (m,ds,k,cs)
 else none
def HU (W n k:Nat) (cs:List T) (a:Int):Option (Nat × List T × Nat × List T):=match n with
 | 0=>none
 | _+1=>KY W (Nb [.ref [.int .i64 a]]) k cs
def Ij (W n k:Nat) (cs:List T):Option (Nat × List T × Nat × List T):=match n with
 | 0=>none
 | _+1=>KY W (Px []) k cs
theorem Kv {fc k:Nat} {el ps:List Pm} {pr:List T→List T→Option Bool} {cs ts:List T} {r:Nat × List T × Nat × List T} (h0:0<el.length) (hf:A1 0 el=true) (he:pbeqs el el=true) (hq:pbeqs ps ps=true) (h:KY el.length (pr ts) k cs=some r) :
  Ms fc el ps pr [⟨.io,⟨false,[.sl .own el],[.lst k cs]⟩⟩,⟨.val,⟨false,[.fn ps],[.fn fc ts]⟩⟩]=some ⟨[⟨false,[.sl .own el],[.lst r.1 r.2.1]⟩],[some ⟨false,[.dead],[.lst r.2.2.1 r.2.2.2]⟩,none]⟩:=by
 unfold KY at h
 split at h
 ·rename_i hk
  split at h
  ·cases h
  ·rename_i m ds hr
   simp only[zS] at h
   subst h
   simp only[Ms,hr]
   rw[if_pos ⟨he,h0,hf,trivial,hq,hk⟩]
 ·cases h
noncomputable def HU.w {E:Aj} (W fc:Nat) (el:List Pm) (hW:el.length=W) (h0:0<W) (hf:A1 0 el=true) (he:pbeqs el el=true) (no:Nat) (h:E.fn no=some (.sem [.io,.val] (Ms fc el [.rf .shr [.leaf]] Nb))):BX E :=
 Bm no [⟨.io,⟨false,[.sl .own el],[.lst 0 []]⟩⟩,⟨.val,⟨false,[.fn [.rf .shr [.leaf]]],[.fn fc [.ref [.int .i64 0]]]⟩⟩] U5 (.one ⟨[⟨false,[.sl .own el],[.lst 0 []]⟩],[some ⟨false,[.dead],[.lst 0 []]⟩,none]⟩ Sl) (fun n v=>HU W n v.1 v.2.1 v.2.2) (by
 intro n v r hh
 obtain ⟨k,cs,a⟩:=v
 cases n with
 | zero=>simp[HU] at hh
 | succ n =>
   simp only[HU] at hh
   subst hW
   have:AZ E (n+1) no (F7 [⟨.io,⟨false,[.sl .own el],[.lst 0 []]⟩⟩,⟨.val,⟨false,[.fn [.rf .shr [.leaf]]],[.fn fc [.ref [.int .i64 0]]]⟩⟩] (U5.pk (k,cs,a)))=Ms fc el [.rf .shr [.leaf]] Nb [⟨.io,⟨false,[.sl .own el],[.lst k cs]⟩⟩,⟨.val,⟨false,[.fn [.rf .shr [.leaf]]],[.fn fc [.ref [.int .i64 a]]]⟩⟩]:=by simp only[AZ,h];rfl
   rw[this,Kv h0 hf he rfl hh]
   rfl)
noncomputable def Ij.w {E:Aj} (W fc:Nat) (el:List Pm) (hW:el.length=W) (h0:0<W) (hf:A1 0 el=true) (he:pbeqs el el=true) (no:Nat) (h:E.fn no=some (.sem [.io,.val] (Ms fc el [] Px))):BX E :=
 Bm no [⟨.io,⟨false,[.sl .own el],[.lst 0 []]⟩⟩,⟨.val,⟨false,[.fn []],[.fn fc []]⟩⟩] PD (.one ⟨[⟨false,[.sl .own el],[.lst 0 []]⟩],[some ⟨false,[.dead],[.lst 0 []]⟩,none]⟩ Sl) (fun n v=>Ij W n v.1 v.2) (by
 intro n v r hh
 obtain ⟨k,cs⟩:=v
 cases n with
 | zero=>simp[Ij] at hh
 | succ n =>
   simp only[Ij] at hh
   subst hW
   have:AZ E (n+1) no (F7 [⟨.io,⟨false,[.sl .own el],[.lst 0 []]⟩⟩,⟨.val,⟨false,[.fn []],[.fn fc []]⟩⟩] (PD.pk (k,cs)))=Ms fc el [] Px [⟨.io,⟨false,[.sl .own el],[.lst k cs]⟩⟩,⟨.val,⟨false,[.fn []],[.fn fc []]⟩⟩]:=by simp only[AZ,h];rfl
   rw[this,Kv h0 hf he rfl hh]
   rfl)
def TX:EY (Nat × List T × Int × Nat × List T) where
 pk:=fun v=>[.lst v.1 v.2.1,.int v.2.2.1,.lst v.2.2.2.1 v.2.2.2.2]
 up:=fun ls=>match ls with
  | [.lst a b,.int c,.lst d e]=>some (a,b,c,d,e)
  | _=>none
 ok:=by
  intro ls v h
  split at h
  ·cases h;rfl
  ·cases h
def Vw:EY (Nat × List T × Nat × List T × Nat × List T) where
 pk:=fun v=>[.lst v.1 v.2.1,.lst v.2.2.1 v.2.2.2.1,.lst v.2.2.2.2.1 v.2.2.2.2.2]
 up:=fun ls=>match ls with
  | [.lst a b,.lst c d,.lst e f]=>some (a,b,c,d,e,f)
  | _=>none
 ok:=by
  intro ls v h
  split at h
  ·cases h;rfl
  ·cases h
def ET (W n k:Nat) (cs:List T) (i:Int) (m:Nat) (ds:List T):Option (Nat × List T × Nat × List T × Nat × List T):=match n with
 | 0=>none
 | _+1=>if m=1∧0≤i∧i≤(k:Int)∧0<k∧k<1000000 then some (k+1,cs.take (i.toNat * W)++ds++cs.drop (i.toNat * W),k,cs,m,ds) else none
noncomputable def ET.w {E:Aj} (W:Nat) (el:List Pm) (hW:el.length=W) (h0:0<W) (hf:A1 0 el=true) (he:pbeqs el el=true) (no:Nat) (h:E.fn no=some (.sem [.io,.val,.io] (Nf el))):BX E :=
 Bm no [⟨.io,⟨false,[.sl .own el],[.lst 0 []]⟩⟩,L9 .i64,⟨.io,⟨false,[.sl .own el],[.lst 0 []]⟩⟩] TX (.one ⟨[⟨false,[.sl .own el],[.lst 0 []]⟩],[some ⟨false,[.dead],[.lst 0 []]⟩,none,some ⟨false,[.dead],[.lst 0 []]⟩]⟩ Vw) (fun n v=>ET W n v.1 v.2.1 v.2.2.1 v.2.2.2.1 v.2.2.2.2) (by
 intro n v r hh
 obtain ⟨k,cs,i,m,ds⟩:=v
 cases n with
 | zero=>simp[ET] at hh
 | succ n =>
   simp only[ET] at hh
   split at hh
   ·rename_i hc
    simp only[zS] at hh
    subst hh
    subst hW
    have:AZ E (n+1) no (F7 [⟨.io,⟨false,[.sl .own el],[.lst 0 []]⟩⟩,L9 .i64,⟨.io,⟨false,[.sl .own el],[.lst 0 []]⟩⟩] (TX.pk (k,cs,i,m,ds)))=Nf el [⟨.io,⟨false,[.sl .own el],[.lst k cs]⟩⟩,⟨.val,⟨false,[.leaf],[.int .i64 i]⟩⟩,⟨.io,⟨false,[.sl .own el],[.lst m ds]⟩⟩]:=by simp only[AZ,h];rfl
    rw[this]
    simp only[Nf]
    rw[if_pos ⟨he,he,h0,hf,hc⟩]
    rfl
   ·simp at hh)
inductive LR:List T→List Value→Prop
 | nil:LR [] []
 | cons {t ts x xs} (h:AJ t x) (r:LR ts xs):LR (t::ts) (x::xs)
section
variable {P:Program} {f:Nat} {fn:Func}
variable (hf : P.funcs[f]? = some fn) (hname : (fn.name == "runtime.NumGoroutine") = false) (hb : fn.body.isNone = true) (hn : Extern.findNext fn = none)
include hf hname hb hn
end
def Bw (k:FloatKind) (xs:List Nat):List T:=xs.map (.flt k)
def Mr (k:FloatKind) (x:Nat):Prop:=Au k x=x∧(Lit.float k x).wf=true
def K8 (k:IntKind) (n:Int):Prop:=k.min≤n∧n≤k.max
section
variable {E:Aj} {t:Nat} {d:TD} {ts:List T}
theorem WT.slc_inv {e:Nat} (h:WT E t ts) (hd:E.ty t=some d) (hk:d.kd = .slc e):∃ n cs,ts=[.lst n cs]∧n≤maxLen∧WTs E e n cs:=by
 cases h with
 | slc h' hk' hl hs =>
   rw[hd] at h';cases h'
   rw[hk] at hk';cases hk'
   exact ⟨_,_,rfl,hl,hs⟩
 | _ h' hk'=>rw[hd] at h';cases h';rw[hk] at hk';cases hk'
theorem WT.int_inv {k:IntKind} (h:WT E t ts) (hd:E.ty t=some d) (hk:d.kd = .int k):∃ n,ts=[.int k n]∧K8 k n:=by
 cases h with
 | int h' hk' h1 h2 =>
   rw[hd] at h';cases h'
   rw[hk] at hk';cases hk'
   exact ⟨_,rfl,h1,h2⟩
 | _ h' hk'=>rw[hd] at h';cases h';rw[hk] at hk';cases hk'
theorem WT.flt_inv {k:FloatKind} (h:WT E t ts) (hd:E.ty t=some d) (hk:d.kd = .flt k):∃ x,ts=[.flt k x]∧Mr k x:=by
 cases h with
 | flt h' hk' h1 h2 =>
   rw[hd] at h';cases h'
   rw[hk] at hk';cases hk'
   exact ⟨_,rfl,h1,h2⟩
 | _ h' hk'=>rw[hd] at h';cases h';rw[hk] at hk';cases hk'
theorem WT.bool_inv (h:WT E t ts) (hd:E.ty t=some d) (hk:d.kd = .bool):∃ b,ts=[.bool b]:=by
 cases h with
 | bool h' hk'=>exact ⟨_,rfl⟩
 | _ h' hk'=>rw[hd] at h';cases h';rw[hk] at hk';cases hk'
theorem WT.st_inv {fs} (h:WT E t ts) (hd:E.ty t=some d) (hk:d.kd = .st fs):WTf E fs ts:=by
 cases h with
 | st h' hk' hf =>
   rw[hd] at h';cases h'
   rw[hk] at hk';cases hk'
   exact hf
 | _ h' hk'=>rw[hd] at h';cases h';rw[hk] at hk';cases hk'
theorem WTs.flts {e n:Nat} {cs:List T} {k:FloatKind} (hd:E.ty e=some d) (hk:d.kd = .flt k) (h:WTs E e n cs):∃ xs,cs=Bw k xs∧n=xs.length∧∀ x∈xs,Mr k x:=by
 induction n generalizing cs with
 | zero=>cases h;exact ⟨[],rfl,rfl,by simp⟩
 | succ n ih =>
   cases h with
   | snoc h hc =>
     obtain ⟨xs,rfl,rfl,hx⟩:=ih h
     obtain ⟨x,rfl,hg⟩:=hc.flt_inv hd hk
     refine ⟨xs++[x],by simp[Bw],by simp,fun y hy => ?_⟩
     simp only[mem_append,mem_singleton] at hy
     rcases hy with hy | rfl
     ·exact hx y hy
     ·exact hg
end
theorem Da.cons_inv {E:Aj} {t:Nat} {tys:List Nat} {as:List Ae} {d:TD} (hd:E.ty t=some d) (h:Da E (t::tys) as):∃ ts r,as=⟨.val,⟨d.agg,shares d.own,ts⟩⟩::r∧WT E t ts∧Da E tys r:=by
 cases h with
 | cons hd' hw r =>
   rw[hd] at hd';cases hd'
   exact ⟨_,_,rfl,hw,r⟩
theorem Da.nil_inv {E:Aj} {as:List Ae} (h:Da E [] as):as=[]:=by cases h;rfl
theorem Le (k xs):(Bw k xs).length=xs.length:=by simp[Bw]
theorem HC {k:FloatKind} {xs:List Nat} {i:Nat} (h:i<xs.length):Ag [.flt k] (Bw k xs) i=true:=by
 simp[Ag,Bw,h,MO]
theorem KU {k:FloatKind} {xs:List Nat} {i:Nat}:JU (Bw k xs) i=xs.getD i 0:=by
 simp only[JU,Bw,List.getElem?_map,List.getD]
 cases xs[i]? <;>rfl
theorem Gt (cs:List T) (i:Nat) (t:T):AT cs i [t]=cs.set i t:=rfl
theorem Sp (n:Nat) (t:T):reps n [t]=List.replicate n t:=by
 induction n with
 | zero=>rfl
 | succ n ih=>rw[M2,ih];rfl
theorem Tt (k:FloatKind) (n:Nat):reps n [.flt k 0]=Bw k (List.replicate n 0):=by
 rw[Sp];simp[Bw]
theorem Q3 (k:FloatKind) (xs:List Nat) (i y:Nat):(Bw k xs).set i (.flt k y)=Bw k (xs.set i y):=by simp[Bw,List.map_set]
theorem C0 {α:Type} {xs ys:List α} {i:Nat} (h:i<xs.length) (hl:ys.length=xs.length):(xs.take i++ys.drop i).set i xs[i]=xs.take (i+1)++ys.drop (i+1):=by
 apply List.ext_getElem?
 intro j
 by_cases hj:j=i
 ·subst hj
  rw[List.getElem?_set_self (by simp;omega),List.getElem?_append_left (by simp;omega)]
  simp[h]
 ·rw[List.getElem?_set_ne (Ne.symm hj)]
  rcases Nat.lt_or_ge j i with h1 | h1
  ·rw[List.getElem?_append_left (by simp;omega),List.getElem?_append_left (by simp;omega)]
   simp[h1,Nat.lt_succ_of_lt h1]
  ·rw[List.getElem?_append_right (by simp;omega),List.getElem?_append_right (by simp;omega)]
   simp only[length_take,List.getElem?_drop]
   congr 1
   omega
theorem A9 {x:Int} (h1 : -9223372036854775808≤x) (h2:x≤9223372036854775807):IntKind.i64.wrap x=x:=by
 rw[IntKind.wrap_i64];omega
theorem Ad {i:Nat} (h:i<9223372036854775807):IntKind.i64.wrap ((i:Int)+1)=((i+1:Nat):Int):=by
 rw[A9] <;>omega
theorem BS {i n:Nat} (h:i<n):decide ((i:Int)<(n:Int))=true:=by simp;omega
theorem A2 {i n:Nat} (h:n≤i):decide ((i:Int)<(n:Int))=false:=by simp;omega
theorem BM {i n:Nat} (h:i<n):decide ((0:Int)≤(i:Int)∧(i:Int)<(n:Int))=true:=by simp;omega
theorem Ql (k:FloatKind) (x y:Nat):SE k x y = !Pj k x y:=rfl
theorem MI {x:Nat} {s:Bool} {m:Nat} {e:Int} (h:Ieee.single.read x = .number s m e):m<16777216 ∧ -149≤e∧e≤104:=by
 have hb:Ieee.single.binade=8388608:=rfl
 have hp:Ieee.single.leastPlace = -149:=by decide
 unfold Ieee.Format.read at h
 by_cases c1:x % Ieee.single.signWeight<Ieee.single.binade
 ·simp only[if_pos c1] at h
  cases h
  rw[hb] at c1
  refine ⟨by omega,?_,?_⟩ <;>rw[hp] <;>omega
 ·by_cases c2:x % Ieee.single.signWeight<Ieee.single.infRung
  ·simp only[if_neg c1,if_pos c2] at h
   cases h
   rw[hb,hp]
   rw[LZ] at c2
   rw[MS] at c2 ⊢
   refine ⟨by omega,by omega,?_⟩
   omega
  ·by_cases c3:x % Ieee.single.signWeight=Ieee.single.infRung
   ·simp only[if_neg c1,if_neg c2,if_pos c3] at h;cases h
   ·simp only[if_neg c1,if_neg c2,if_neg c3] at h;cases h
theorem Q5 {f:Ieee.Format} {s:Bool} {r:Nat} (h:r<f.infRung) (hw:f.infRung<f.signWeight):((f.read (f.word s r)).isInfinity)=false:=by
 have hr:f.word s r % f.signWeight=r:=by
  unfold Ieee.Format.word
  split
  ·rw[Nat.add_mod_left,Nat.mod_eq_of_lt (by omega)]
  ·rw[Nat.mod_eq_of_lt (by omega)]
 simp only[Ieee.Format.read,hr]
 split
 ·rfl
 ·simp only[Ieee.Datum.isInfinity]
theorem RN {s:Bool} {m:Nat} {e:Int} (hm:m<16777216) (h1 : -149≤e) (h2:e≤104):(Ieee.double.read (Ieee.double.nearest s m e)).isInfinity=false:=by
 have hb:Ieee.double.binade=4503599627370496:=rfl
 have hp:Ieee.double.leastPlace = -1074:=by decide
 have hf:(Ieee.double.fractionBits:Int)=52:=rfl
 unfold Ieee.Format.nearest
 split
 ·exact Q5 (by rw[DY];decide) (by rw[DY,Hh];decide)
 ·rename_i hz
  have hl:m.log2≤23:=by
   have:m.log2<24:=(Nat.log2_lt hz).2 (by omega)
   omega
  have hmax:max (e+(m.log2:Int) - 52) (-1074)=e+(m.log2:Int) - 52:=by omega
  simp only[hf,hp,hmax]
  have e1:(e - (e+(m.log2:Int) - 52)).toNat=52 - m.log2:=by omega
  have e2:(e+(m.log2:Int) - 52 - e).toNat=0:=by omega
  rw[e1,e2]
  have hcut:∀ n,Ieee.Toward.cut .even s n 0=n:=by
   intro n
   simp only[Ieee.Toward.cut,Nat.zero_le,Nat.min_eq_left,Nat.shiftLeft_zero,Nat.div_one,Nat.mod_one]
   rfl
  rw[hcut]
  have hk:m <<< (52 - m.log2)<9007199254740992:=by
   rw[Nat.shiftLeft_eq]
   have h3:m<2 ^ (m.log2+1):=Nat.lt_log2_self
   have h4:(2:Nat) ^ (m.log2+1) * 2 ^ (52 - m.log2)=2 ^ 53:=by
    rw[← Nat.pow_add];congr 1;omega
   calc m * 2 ^ (52 - m.log2)<2 ^ (m.log2+1) * 2 ^ (52 - m.log2):=Nat.mul_lt_mul_of_pos_right h3 (Nat.pow_pos (by decide))
    _=9007199254740992:=by rw[h4]
  have ht:(e+(m.log2:Int) - 52 - -1074).toNat≤1149:=by omega
  have hlt:(e+(m.log2:Int) - 52 - -1074).toNat * Ieee.double.binade+m <<< (52 - m.log2)<Ieee.double.infRung:=by
   rw[hb,DY]
   omega
  rw[Nat.min_eq_left (Nat.le_of_lt hlt)]
  exact Q5 hlt (by rw[DY,Hh];decide)
def Xg (x:Nat):Nat:=match CE .f32 x .f64 with
 | some y=>y
 | none=>0
theorem He (x:Nat):CE .f32 x .f64=some (Xg x):=by
 unfold Xg
 have:∃ y,CE .f32 x .f64=some y:=by
  unfold CE
  rw[if_neg (by decide)]
  cases h:FloatKind.f32.decode x with
  | nan s t=>exact ⟨_,rfl⟩
  | infinity s=>exact ⟨_,rfl⟩
  | number s m e =>
    obtain ⟨h1,h2,h3⟩:=MI (x:=x) h
    have:=RN (s:=s) h1 h2 h3
    refine ⟨FloatKind.f64.encode (.number s m e),?_⟩
    show (if (FloatKind.f64.decode (FloatKind.f64.encode (.number s m e))).isInfinity=true then none else some _)=some _
    have h4:(FloatKind.f64.decode (FloatKind.f64.encode (.number s m e))).isInfinity=false:=this
    rw[h4];rfl
 obtain ⟨y,hy⟩:=this
 rw[hy]
theorem Sq {k:FloatKind} {x:Nat} (h:isNaN k x=false):Pj k x x=true:=by
 unfold Pj Ieee.Format.order
 unfold isNaN FloatKind.decode at h
 cases hr:k.format.read x with
 | nan s t=>rw[hr] at h;cases h
 | infinity s=>simp[Ieee.Datum.order]
 | number s m e=>simp[Ieee.Datum.order]
theorem MA (k:FloatKind) (n:Int):isNaN k (k.nearest n)=false:=by
 unfold FloatKind.nearest
 exact Em (fun _ _ h=>by cases h)
theorem PS (k:FloatKind) (n:Int):Pj k (k.nearest n) (k.nearest n)=true:=Sq (MA k n)
theorem J3 (k:FloatKind) (n:Int):SE k (k.nearest n) (k.nearest n)=false:=by rw[Ql,PS];rfl
def Af (k:FloatKind) (s:Int) (n:Nat):List Nat:=(List.range n).map fun j:Nat=>k.nearest (s+(j:Int))
theorem BI (k s n):(Af k s n).length=n:=by simp[Af]
theorem Pl {k:FloatKind} {s:Int} {n i:Nat} (h:i<n):(Af k s n).getD i 0=k.nearest (s+(i:Int)):=by simp[Af,List.getD,h]
theorem RJ {k:FloatKind} {s:Int} {n i:Nat} (h:i<(Af k s n).length):(Af k s n)[i]=k.nearest (s+(i:Int)):=by simp[Af]
theorem GE {a b:Nat} (h:a≤b):Nat.ble a b=true:=by rw[Nat.ble_eq];exact h
structure ZD (P:Program) (f:Nat) (W:Nat):Prop where
 enter:∀ xs w,(callFunc f xs).run P w = .ok (.enter f xs) w
 same:∀ (w:World) (a:Option Addr) (n cap i:Nat),n≤cap→i≤n→(a=none→n=0∧cap=0)→(∀ x,a=some x→x.spot=none) →
  Calls P f #[.slice a n cap,.int .i64 i,.int .i64 i] w fun e w'=>e = .returned (.slice a n cap)∧w'=w
 move:∀ (w:World) (b off n cap i j:Nat) (vs:List Value),vs.length=n * W→(∀ t u,vs[t]?=some u→w.cell? ⟨b,off+t,none⟩=some u)→(∀ t,t<vs.length→w.frozen? ⟨b,off+t,none⟩=false) →
  (∀ u∈vs,u.oneCell'=true)→n≤cap→i<j→j≤n→∃ zs:List Value,zs.length=(j - i) * W ∧
  Calls P f #[.slice (some ⟨b,off,none⟩) n cap,.int .i64 i,.int .i64 j] w fun e w'=>e = .returned (.slice (some ⟨b,off,none⟩) (n - (j - i)) cap)∧w'=Di (Di w.drew b (off+i * W) (vs.drop (j * W))) b (off+(i+(n - j)) * W) zs
theorem Jk (w:World) (W:Nat→Nat→Prop):Al w w.drew W:=⟨rfl,rfl,rfl,Nat.le_refl _,fun _ row _ fr h=>⟨row,fr,h,rfl,fun _ _=>rfl,.inl rfl⟩,fun _ _ h _=>h⟩
theorem R.int_one {w:World} {Fz:Nat→Prop} {Lt:Nat→Nat→Prop} {g:Nat} {k:IntKind} {i:Int} {vs:List Value} {f:Fp} (h:R w Fz Lt g [.leaf] [.int k i] vs f):vs=[.int k i]∧f=[]:=by
 cases h with
 | leaf hl hr =>
   cases hr with
   | nil=>exact ⟨by rw[show _=_ from hl],rfl⟩
structure Yy (P:Program) (f:Nat):Prop where
 enter:∀ xs w,(callFunc f xs).run P w = .ok (.enter f xs) w
 none:∀ (w:World) (a:Option Addr) (cap:Nat),Calls P f #[.slice a 0 cap] w fun e w'=>e = .returned (.tuple #[])∧w'=w
 turn:∀ (w:World) (b off n cap:Nat) (vs:List Value),vs.length=n→(∀ t u,vs[t]?=some u→w.cell? ⟨b,off+t,.none⟩=some u)→(∀ t,t<vs.length→w.frozen? ⟨b,off+t,.none⟩=false) →
  (∀ u∈vs,u.oneCell'=true)→n<4611686018427387904 →
  Calls P f #[.slice (some ⟨b,off,.none⟩) n cap] w fun e w'=>e = .returned (.tuple #[])∧∃ q,w'=Di { w with drawn:=w.drawn+q } b off vs.reverse
def Dl {α:Type} (W:Nat):List Bool→List α→List α
 | [],_=>[]
 | true::bs,xs=>Dl W bs (xs.drop W)
 | false::bs,xs=>xs.take W++Dl W bs (xs.drop W)
def FF:List Bool→Nat
 | []=>0
 | true::bs=>FF bs
 | false::bs=>FF bs+1
theorem R.keep {w:World} {Fz:Nat→Prop} {Lt:Nat→Nat→Prop} {g:Nat} {el:List Pm}:∀ {bs:List Bool} {cs:List T} {vs:List Value} {f:Fp},R w Fz Lt g (rep bs.length el) cs vs f →
  ∃ f',List.Sublist f' f∧R w Fz Lt g (rep (FF bs) el) (Dl el.length bs cs) (Dl el.length bs vs) f'
 | [],_,_,_,h=>by cases h;exact ⟨[],List.Sublist.refl _,.nil⟩
 | b::bs,cs,vs,f,h=>by
   rw[length_cons,CD] at h
   obtain ⟨c1,c2,v1,v2,f1,f2,rfl,rfl,rfl,h1,h2⟩:=h.split
   obtain ⟨f',s,k⟩:=h2.keep (bs:=bs)
   have l1:=h1.length_eq
   cases b
   ·refine ⟨f1++f',List.Sublist.append (List.Sublist.refl _) s,?_⟩
    show R w Fz Lt g (rep (FF bs+1) el) ((c1++c2).take el.length++Dl el.length bs ((c1++c2).drop el.length)) ((v1++v2).take el.length++Dl el.length bs ((v1++v2).drop el.length)) _
    rw[take_left' l1.1,drop_left' l1.1,take_left' l1.2,drop_left' l1.2,CD]
    exact h1.append k
   ·refine ⟨f',s.trans (List.sublist_append_right _ _),?_⟩
    show R w Fz Lt g (rep (FF bs) el) (Dl el.length bs ((c1++c2).drop el.length)) (Dl el.length bs ((v1++v2).drop el.length)) _
    rw[drop_left' l1.1,drop_left' l1.2]
    exact k
theorem R.rowAt {w:World} {Fz:Nat→Prop} {Lt:Nat→Nat→Prop} {g n i:Nat} {el:List Pm} {cs:List T} {vs:List Value} {f:Fp} (h:R w Fz Lt g (rep n el) cs vs f) (hi:i<n) :
  ∃ f',List.Sublist f' f∧R w Fz Lt g el ((cs.drop (i * el.length)).take el.length) ((vs.drop (i * el.length)).take el.length) f' :=by
 rw[show n=i+(1+(n - i - 1)) by omega,Dx,Dx,Bp] at h
 obtain ⟨c1,c23,v1,v23,f1,f23,rfl,rfl,rfl,h1,h23⟩:=h.split
 obtain ⟨c2,c3,v2,v3,f2,f3,rfl,rfl,rfl,h2,h3⟩:=h23.split
 have l1:=h1.length_eq
 have l2:=h2.length_eq
 rw[BH] at l1
 refine ⟨f2,(List.sublist_append_left _ _).trans (List.sublist_append_right _ _),?_⟩
 rw[drop_left' l1.1,drop_left' l1.2,take_left' l2.1,take_left' l2.2]
 exact h2
structure YV (P:Program) (f W fc:Nat):Prop where
 enter:∀ xs w,(callFunc f xs).run P w = .ok (.enter f xs) w
 none:∀ (w:World) (fv:Value),Calls P f #[.slice .none 0 0,fv] w fun e w'=>e = .returned (.slice .none 0 0)∧Al w w' (fun _ _=>False)
 run:∀ (w:World) (b off n cap:Nat) (vs:List Value) (caps:Array Value) (bs:List Bool),vs.length=n * W→bs.length=n→(∀ t u,vs[t]?=some u→w.cell? ⟨b,off+t,.none⟩=some u)→(∀ t,t<vs.length→w.frozen? ⟨b,off+t,.none⟩=false) →
  (∀ u∈vs,u.oneCell'=true)→n≤cap→n<4611686018427387904 →
  (∀ i c w',bs[i]?=some c→Al w w' (fun b' t=>b'=b∧off≤t∧t<off+n * W)→Calls P fc (#[.agg ((vs.drop (i * W)).take W).toArray]++caps) w' fun e w''=>e = .returned (.bool c)∧Al w' w'' (fun _ _=>False)) →
  Calls P f #[.slice (some ⟨b,off,.none⟩) n cap,.func (.func fc) #[] caps] w fun e w'=>e = .returned (.slice (some ⟨b,off,.none⟩) (FF bs) cap)∧Al w w' (fun b' t=>b'=b∧off≤t∧t<off+n * W) ∧
   ∀ t u,(Dl W bs vs)[t]?=some u→w'.cell? ⟨b,off+t,.none⟩=some u
theorem R.insert {w:World} {Fz:Nat→Prop} {Lt:Nat→Nat→Prop} {g n i:Nat} {el:List Pm} {cs ds:List T} {vs us:List Value} {f k:Fp} (h:R w Fz Lt g (rep n el) cs vs f) (h2:R w Fz Lt g (rep 1 el) ds us k) (hi:i≤n) :
  ∃ f',f'.Perm (f++k)∧R w Fz Lt g (rep (n+1) el) (cs.take (i * el.length)++ds++cs.drop (i * el.length)) (vs.take (i * el.length)++us++vs.drop (i * el.length)) f' :=by
 rw[show n=i+(n - i) by omega,Dx] at h
 obtain ⟨c1,c2,v1,v2,f1,f2,rfl,rfl,rfl,h1,h3⟩:=h.split
 have l1:=h1.length_eq
 rw[BH] at l1
 refine ⟨f1++k++f2,?_,?_⟩
 ·rw[append_assoc,append_assoc]
  exact List.Perm.append_left _ perm_append_comm
 ·rw[take_left' l1.1,take_left' l1.2,drop_left' l1.1,drop_left' l1.2,show n+1=(i+1)+(n - i) by omega,Dx,Dx]
  exact (h1.append h2).append h3
structure P7 (P:Program) (f:Nat) (W:Nat):Prop where
 enter:∀ xs w,(callFunc f xs).run P w = .ok (.enter f xs) w
 run:∀ (w:World) (b off n cap i vb voff vc:Nat) (vs us:List Value) (row vrow:Array Value) (e ve:TypeId) (fr vfr:Nat × Nat),
  w.heap[b]?=some (.cells row e fr)→w.heap[vb]?=some (.cells vrow ve vfr)→vb≠b→off+cap * W≤row.size→voff+W≤vrow.size →
  seg row off (n * W)=vs→seg vrow voff W=us→(∀ u∈vs,u.oneCell'=true)→(∀ u∈us,u.oneCell'=true) →
  (∀ j,off≤j→¬ (fr.1≤j∧j<fr.2))→(∀ j,voff≤j→¬ (vfr.1≤j∧j<vfr.2)) →
  0<n→n≤cap→i≤n→n<1000000→1≤vc →
  Calls P f #[.slice (some ⟨b,off,none⟩) n cap,.int .i64 i,.slice (some ⟨vb,voff,none⟩) 1 vc] w fun x w'=>∃ b' off' cap',x = .returned (.slice (some ⟨b',off',none⟩) (n+1) cap')∧n+1≤cap' ∧
   ∃ row' e' fr',w'.heap[b']?=some (.cells row' e' fr')∧off'+cap' * W≤row'.size∧seg row' off' ((n+1) * W)=vs.take (i * W)++us++vs.drop (i * W)∧(∀ j,off'≤j→¬ (fr'.1≤j∧j<fr'.2)) ∧
    ((b'=b∧off'=off∧cap'=cap∧Al w w' (fun b1 t=>b1=b∧off≤t∧t<off+cap * W))∨(w.heap.size≤b'∧Al w w' (fun _ _=>False)))
theorem V7 {P:Program} {f:Nat} {el:List Pm} (hr:P7 P f el.length):H6 P (fun _ as=>Nf el as) f:=by
 intro as r h0 w Fz xs mfp hA hnd hF
 have h:Nf el as=some r:=h0
 clear h0
 unfold Nf at h
 split at h
 case h_2=>cases h
 rename_i ea n cs i eb m ds
 split at h
 case isFalse=>cases h
 rename_i hc
 obtain ⟨ha,hb,hW0,hfirm,rfl,i0,ij,hn0,hbig⟩:=hc
 have ha:=(pbeqs_eq ha).symm
 have hb:=(pbeqs_eq hb).symm
 subst ha hb
 simp only[zS] at h
 subst h
 obtain ⟨i,rfl⟩:=Int.eq_ofNat_of_zero_le i0
 have hin:i≤n:=by omega
 simp only[zT]
 cases hA with
 | @io _ x vs f0 _ xs fs hcell hR hA =>
 cases hA with
 | @val _ y vs2 _ xs2 _ hc2 hR2 hA =>
 cases hA with
 | @io _ z vs3 f3 _ xs3 fs3 hc3 hR3 hA =>
 cases hA with
 | nil =>
 obtain ⟨rfl,-⟩:=hR2.int_one
 have hcell:vs=[x]:=hcell
 have hy:[.int .i64 (i:Int)]=[y]:=hc2
 have hc3:vs3=[z]:=hc3
 simp only[List.cons.injEq,and_true] at hy
 subst hcell hy hc3
 rw[append_nil] at hnd ⊢
 refine .inr ⟨hr.enter _ _,?_⟩
 show Calls P f #[x,.int .i64 i,z] w _
 cases hR with
 | slE h hr2=>omega
 | @slO b off _ cap row e fr _ _ vs' _ _ _ fp₁ fp₂ h0 hb hz hl hn hs hr' hf hi r =>
 cases r with
 | nil =>
 cases hR3 with
 | @slO vb voff _ vcap vrow ve vfr _ _ us' _ _ _ gp₁ gp₂ k0 kb kz kl kn ks kr' kf ki r =>
 cases r with
 | nil =>
 simp only[append_nil,cons_append] at hnd
 have hvb:vb≠b:=by
  intro e1
  simp only[map_cons,map_append,nodup_cons,mem_append,mem_cons] at hnd
  exact hnd.1 (.inr (.inl e1.symm))
 rw[Nat.one_mul] at ks
 have hcw:1 * el.length≤vcap * el.length:=Nat.mul_le_mul_right _ kn
 refine (hr.run w b off n cap i vb voff vcap vs' us' row vrow e ve fr vfr hb kb hvb hr' (by omega) hs ks (hi.oneCells (JS hfirm)) (ki.oneCells (JS hfirm)) (hf (by omega)) (kf (by omega)) hn0 hn hin hbig kn).mono ?_
 rintro e1 w' ⟨b',off',cap',rfl,hcap',row',e',fr',hb',hsz',hseg,hfr',hcase⟩
 obtain ⟨f',hperm,hins⟩:=hi.insert ki hin
 have hx:Al w w' (fun b1 t=>b1=b∧off≤t∧t<off+cap * el.length):=by
  rcases hcase with ⟨-,-,-,hx⟩ | ⟨-,hx⟩
  ·exact hx
  ·exact hx.mono fun _ _ _ h=>h.elim
 have hmem:∀ y∈f',y∈fp₁∨y∈gp₁:=fun y hy=>mem_append.1 (hperm.mem_iff.1 hy)
 have hnb:∀ y∈f',y.b≠b:=by
  intro y hy hyb
  simp only[map_cons,map_append,nodup_cons,mem_append,mem_cons] at hnd
  rcases hmem y hy with h | h
  ·exact hnd.1 (.inl (mem_map.2 ⟨y,h,hyb⟩))
  ·exact hnd.1 (.inr (.inr (mem_map.2 ⟨y,h,hyb⟩)))
 have hnf:(f'.map Fe.b).Nodup:=by
  refine ((hperm.map Fe.b).nodup_iff).2 ?_
  simp only[map_cons,map_append,nodup_cons] at hnd
  refine List.Nodup.sublist ?_ hnd.2
  rw[map_append]
  exact List.Sublist.append (List.Sublist.refl _) (List.sublist_cons_self _ _)
 have hR' :=hins.turn hx (fun b' t hb' h=>hz (h.1 ▸ hb')) (Lt' :=noLt) (g' :=0) (.inl ⟨rfl,rfl,fun _ _ h=>h.elim⟩) (fun y hy t _ _ h=>hnb y hy h.1)
 have hz':¬ Fz b' :=by
  rcases hcase with ⟨rfl,-⟩ | ⟨hge,-⟩
  ·exact hz
  ·intro h
   have:=hF _ h
   omega
 have hown:R _ Fz noLt 0 [.sl .own el] [.lst (n+1) (cs.take (i * el.length)++ds++cs.drop (i * el.length))] [.slice (some ⟨b',off',none⟩) (n+1) cap'] (⟨b',off',off'+(n+1) * el.length,off'+(n+1) * el.length,off'+cap' * el.length⟩::f'++[]) :=
  .slO h0 hb' hz' (fun _ _ h=>h.elim) hcap' hseg hsz' (fun _=>hfr') hR' .nil
 rw[append_nil] at hown
 refine ⟨hx.mono (fun b' t _ h=>⟨_,mem_append_left _ (mem_cons_self ..),h.1.symm,h.2.1,by show t<off+cap * el.length;omega⟩),noLt,0,[_],[],⟨_,.cons (show AE false _ [_] from rfl) hown .nil,rfl⟩,.io (f:=[]) (show AE false _ [_] from rfl) (.dead .nil) (.val (.io (f:=[]) (show AE false _ [_] from rfl) (.dead .nil) .nil)),?_,?_⟩
 ·simp only[flatten_cons,flatten_nil,append_nil,map_cons,nodup_cons]
  refine ⟨?_,hnf⟩
  intro h
  obtain ⟨y,hy,hyb⟩:=mem_map.1 h
  rcases hcase with ⟨rfl,-⟩ | ⟨hge,-⟩
  ·exact hnb y hy hyb
  ·have:y.b<w.heap.size:=by
    rcases hmem y hy with h | h
    ·exact (hi.lt y h).1
    ·exact (ki.lt y h).1
   have hyb:y.b=b' :=hyb
   omega
 ·intro y hy
  simp only[flatten_cons,flatten_nil,append_nil,mem_cons] at hy
  rcases hy with rfl | hy
  ·rcases hcase with ⟨rfl,rfl,rfl,-⟩ | ⟨hge,-⟩
   ·exact .inr ⟨_,mem_append_left _ (mem_cons_self ..),rfl,Nat.le_refl _,Nat.le_refl _⟩
   ·exact .inl hge
  ·rcases hmem y hy with h | h
   ·exact .inr ⟨y,by simp[h],rfl,Nat.le_refl _,Nat.le_refl _⟩
   ·exact .inr ⟨y,by simp[h],rfl,Nat.le_refl _,Nat.le_refl _⟩
theorem Dz {P:Program} {w:World} {dT sT ty e:TypeId} {i:TypeInfo} (ht:P.underlying dT=some (.slice e)) (hi:P.info? e=some i) {b o dl dc sb so sl sc m:Nat} {row srow:Array Value} {be se:TypeId} {fr sfr:Nat × Nat}
  (hb:w.heap[b]?=some (.cells row be fr)) (hsb:w.heap[sb]?=some (.cells srow se sfr)) (hm:Nat.min sl dl=m) (h1:o+m * i.size≤row.size) (h2:so+m * i.size≤srow.size)
  (hf:∀ j,o≤j→¬ (fr.1≤j∧j<fr.2)) (hone:∀ v∈seg srow so (m * i.size),v.oneCell'=true) :
  (Builtin.copy_ #[dT,sT] ty #[.slice (some ⟨b,o,none⟩) dl dc,.slice (some ⟨sb,so,none⟩) sl sc]).run P w = .ok (goInt m) (Di w b o (seg srow so (m * i.size))):=by
 have hl:=Du (P:=P) hsb h2
 have hlen:=Ds h2
 have hst:=Dk (P:=P) (seg srow so (m * i.size)) w b o 0 row be fr hb (by omega) (fun j a _=>hf j (by omega)) hone
 simp only[Nat.add_zero] at hst
 simp[Builtin.copy_,run_underlying ht,Builtin.lenOf,Builtin.firstCells,sizeOf,typeInfo,hi,hm,hl,hst]
theorem Oh {w:World} {b:Nat} {row:Array Value} {e:TypeId} {fr:Nat × Nat} (h:w.heap[b]?=some (.cells row e fr)):w.shape? b=some (e,row.size):=by
 simp[World.shape?,h]
end Go.Desk
end
