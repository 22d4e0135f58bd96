/- FnFrozen holds: for every input the law returns true, and its arguments read as before. -/
import Derived.Test.YtdobhipbgpiceaaGreatM5b
set_option linter.all false
set_option linter.unusedVariables false
open List (all_cons all_eq_true any_cons any_eq_false any_eq_true any_map append_assoc append_nil cons_append count_append drop_drop drop_eq_getElem_cons drop_eq_nil_of_le drop_left' drop_zero filter_cons_of_neg filter_cons_of_pos flatMap_append flatMap_cons flatMap_def flatMap_singleton flatten_cons flatten_nil foldl_cons length_append length_cons length_drop length_eq_one_iff length_eq_zero_iff length_map length_nil length_replicate length_set length_singleton length_take mapM_cons map_append map_congr_left map_cons map_map map_nil mem_append mem_append_left mem_cons mem_cons_of_mem mem_cons_self mem_filter mem_flatten mem_map mem_of_mem_drop mem_or_eq_of_mem_set mem_range mem_replicate mem_singleton nil_append nodup_append nodup_cons not_mem_nil perm_append_comm perm_iff_count perm_middle replicate_succ take_append_drop take_left' take_length take_of_length_le take_succ_cons take_zero)
section
namespace Go.Desk
open Go
def RE:Nat→List DG→List Nat
 | _,[]=>[]
 | i,.iop::ms=>i::RE (i+1) ms
 | i,_::ms=>RE (i+1) ms
def G7 (E:A4):List ResultVar→List (Nat × Option (Bool × Nat))→Bool
 | [],[]=>true
 | .tmp t::rs,(t',none)::r=>t==t'&&G7 E rs r
 | .cell a t::rs,(a',some (ag,n))::r=>a==a'&&(match E.ty t with
   | some d=>d.agg==ag&&d.sz==n
   | none=>false)&&G7 E rs r
 | _,_=>false
def Wl (E:A4) (fn:Func) (c:Code) (modes:List DG) (outs:List Nat) (results:List (Nat × Option (Bool × Nat))):Bool :=
 Nat.ble modes.length fn.ntmps&&Nat.ble fn.ntmps 1000000&&Ha fn.ntmps (RE 0 modes) c&&G7 E fn.results.toList results&&(results.map (·.1)++outs).all (fun t=>Nat.blt t 1000000)
def bo (P:Program) (f:Nat) (h:List T→Option (List (Bool × List Pm × List T))):Prop :=
 ∀ ts rs,h ts=some rs→∀ (w:World) (Fz:Nat→Prop) (as:List Ae) (xs:List Value),Eh w Fz as xs []→(as.all G0)=true→(as.flatMap fun a=>a.v.cs)=ts →
  ∃ v w',(callFunc f xs.toArray).run P w = .ok (.value v) w'∧Aw w w' (fun _ _=>False)∧∃ fr,R9 w' Fz noLt 0 (rs.map fun x=>⟨x.1,x.2.1,x.2.2⟩) v fr∧(fr.flatten.map Fe.b).Nodup∧∀ x∈fr.flatten,w.heap.size≤x.b
def bY (h:List T→Option (List (Bool × List Pm × List T))) (as:List Ae):Option Ec:=if as.all G0 then (match h (as.flatMap fun a=>a.v.cs) with
 | none=>none
 | some rs=>some ⟨rs.map fun x=>⟨x.1,x.2.1,x.2.2⟩,as.map fun _=>none⟩) else none
def IC (P:Program) (f:Nat) (h:List T→Option (List (Bool × List Pm × List T))):Prop:=Kz P (fun _ as=>bY h as) f
def Cm (P:Program) (E:A4) (f:Nat):FD→Prop
 | .code c modes outs results _ => ∃ fn, P.funcs[f]? = some fn ∧ (fn.name == "runtime.NumGoroutine") = false ∧ fn.body = some c ∧ Wl E fn c modes outs results = true
 | .ext h=>IC P f h
 | .sem _ h=>Kz P (fun _ as=>h as) f
section
variable {C:DN} {w w':World} {a a':Act} {σ τ:AS} {Lt Lt':Nat→Nat→Prop} {cv cv':Nat→Value} {fp fpU:Nat→Fp} {g g' n:Nat} {env env':List (Nat × AA)} {o:Oper} {Fz Fz':Nat→Prop}
def cq (w:World) (Fz:Nat→Prop) (arg:Ae) (x:Value) (f:Fp):Prop:=match arg.m with
 | .val=>f=[]∧∃ vs,AE arg.v.agg x vs∧R w Fz noLt 0 arg.v.p arg.v.cs vs f
 | .io=>∃ vs,AE arg.v.agg x vs∧R w Fz noLt 0 arg.v.p arg.v.cs vs f
 | .iop=>∃ p cs,arg.v=⟨false,[.rf .own p],[.ref cs]⟩∧R w Fz noLt 0 [.rf .own p] [.ref cs] [x] f
theorem Eh.list {as xs mfp} (h:Eh w Fz as xs mfp):xs.length=as.length∧∃ fs:List Fp,fs.length=as.length∧fs.flatten=mfp∧∀ (i:Nat) arg,as[i]?=some arg→∃ x f,xs[i]?=some x∧fs[i]?=some f∧cq w Fz arg x f:=by
 induction h with
 | nil=>exact ⟨rfl,[],rfl,rfl,by simp⟩
 | @val v x vs as xs fs hc hR r ih =>
   obtain ⟨l,gs,h1,h2,h3⟩:=ih
   refine ⟨by simp[l],[]::gs,by simp[h1],by simp[h2],fun i arg hi => ?_⟩
   cases i with
   | zero =>
     simp only[List.getElem?_cons_zero,zS] at hi
     subst hi
     exact ⟨x,[],rfl,rfl,rfl,vs,hc,hR⟩
   | succ i=>simpa using h3 i arg (by simpa using hi)
 | @io v x vs f as xs fs hc hR r ih =>
   obtain ⟨l,gs,h1,h2,h3⟩:=ih
   refine ⟨by simp[l],f::gs,by simp[h1],by simp[h2],fun i arg hi => ?_⟩
   cases i with
   | zero =>
     simp only[List.getElem?_cons_zero,zS] at hi
     subst hi
     exact ⟨x,f,rfl,rfl,vs,hc,hR⟩
   | succ i=>simpa using h3 i arg (by simpa using hi)
 | @iop p cs x f as xs fs hR r ih =>
   obtain ⟨l,gs,h1,h2,h3⟩:=ih
   refine ⟨by simp[l],f::gs,by simp[h1],by simp[h2],fun i arg hi => ?_⟩
   cases i with
   | zero =>
     simp only[List.getElem?_cons_zero,zS] at hi
     subst hi
     exact ⟨x,f,rfl,rfl,p,cs,rfl,hR⟩
   | succ i=>simpa using h3 i arg (by simpa using hi)
def cellsOf (ag:Bool) (x:Value):List Value:=if ag then (match x with | .agg vs=>vs.toList | _=>[]) else [x]
theorem QE {ag:Bool} {x:Value} {vs:List Value} (h:AE ag x vs):cellsOf ag x=vs:=by
 cases ag
 ·simp only[AE,Bool.false_eq_true,if_false] at h;simp[cellsOf,h]
 ·simp only[AE,if_true] at h;simp[cellsOf,h]
theorem K8:∀ (as:List Ae) (s k:Nat),AO (JR s as) k=match (if s≤k then as[k - s]? else none) with | some arg=>MH k arg | none => .dead
 | [],s,k=>by simp[JR,AO]
 | a::as,s,k=>by
   simp only[JR,AO,K8 as (s+1) k]
   by_cases h:s=k
   ·subst h;simp
   ·rw[if_neg h]
    by_cases h1:s≤k
    ·have h2:s+1≤k:=by omega
     rw[if_pos h1,if_pos h2,show k - s=(k - (s+1))+1 by omega,List.getElem?_cons_succ]
    ·rw[if_neg h1,if_neg (by omega)]
theorem QV (i:Nat) (arg:Ae):(MH i arg).looks=[]:=by
 obtain ⟨m,v⟩:=arg
 cases m <;>simp only[MH] <;>try rfl
 split <;>rfl
def Oo:Nat→List Ae→List Value→List (Nat × Value)
 | i,a::as,x::xs=>(match a.m with | .iop=>[(i,x)] | _=>[])++Oo (i+1) as xs
 | _,_,_=>[]
theorem KI:∀ {ms:List DG} {as:List Ae},ES ms as=true→ms.length=as.length∧ms=as.map (·.m)
 | [],[],_=>⟨rfl,rfl⟩
 | [],_::_,h=>by simp[ES] at h
 | _::_,[],h=>by simp[ES] at h
 | m::ms,a::as,h=>by
   simp only[ES,zB] at h
   obtain ⟨h1,h2⟩:=KI h.2
   have:m=a.m:=by
    have:=h.1
    cases m <;>cases hm:a.m <;>simp[DG.beq,hm] at this <;>rfl
   exact ⟨by simp[h1],by simp[h2,this]⟩
theorem Rf:∀ {as:List Ae} {xs:List Value} (i:Nat),xs.length=as.length→(Oo i as xs).map (·.1)=RE i (as.map (·.m))
 | [],[],i,_=>rfl
 | [],_::_,_,h=>by simp at h
 | _::_,[],_,h=>by simp at h
 | a::as,x::xs,i,h=>by
   have ih:=Rf (as:=as) (xs:=xs) (i+1) (by simpa using h)
   simp only[Oo,map_append,ih,map_cons]
   cases hm:a.m <;>simp[RE]
theorem Tc:∀ {as:List Ae} {xs:List Value} {i:Nat} {kx:Nat × Value},kx∈Oo i as xs→i≤kx.1∧xs[kx.1 - i]?=some kx.2
 | [],xs,i,kx,h=>by cases xs <;>simp[Oo] at h
 | _::_,[],i,kx,h=>by simp[Oo] at h
 | a::as,x::xs,i,kx,h=>by
   simp only[Oo,mem_append] at h
   rcases h with h | h
   ·cases hm:a.m <;>simp[hm] at h
    subst h
    simp
   ·obtain ⟨h1,h2⟩:=Tc h
    refine ⟨by omega,?_⟩
    rw[show kx.1 - i=(kx.1 - (i+1))+1 by omega]
    simpa using h2
theorem VJ:∀ {as:List Ae} {xs:List Value} {i j:Nat} {arg:Ae} {x:Value},as[j]?=some arg→arg.m = .iop→xs[j]?=some x→(i+j,x)∈Oo i as xs
 | [],xs,i,j,arg,x,h,_,_=>by simp at h
 | _::_,[],i,j,arg,x,_,_,h=>by simp at h
 | a::as,y::xs,i,j,arg,x,h,hm,hx=>by
   simp only[Oo,mem_append]
   cases j with
   | zero =>
     simp only[List.getElem?_cons_zero,zS] at h hx
     subst h hx
     left;simp[hm]
   | succ j =>
     right
     have:=VJ (i:=i+1) (as:=as) (xs:=xs) (j:=j) (by simpa using h) hm (by simpa using hx)
     rwa [show i+1+j=i+(j+1) by omega] at this
def KW (P:Program) (E:A4) (w:World) (Fz:Nat→Prop) (as:List Ae) (xs:List Value) (mfp:Fp):DN where
 P:=P
 E:=E
 w0:=w
 Fz:=Fz
 mfp:=mfp
 pinv:=fun p=>match as[p - 1]?,xs[p - 1]? with
  | some a,some x=>cellsOf a.v.agg x
  | _,_=>[]
 fx:=Oo 0 as xs
theorem PX {xs:List Value} {nt k:Nat}:(xs.toArray++Array.replicate (nt - xs.toArray.size) undef).getD k undef=xs.getD k undef:=by
 rw[Array.getD_eq_getD_getElem?,Array.getElem?_append,List.getD_eq_getElem?_getD]
 split
 ·simp
 ·rename_i h
  have h':xs.length≤k:=by simpa using h
  rw[Array.getElem?_replicate,List.getElem?_eq_none h']
  split <;>rfl
theorem Zr {P:Program} {E:A4} {nt:Nat} {as:List Ae} {xs:List Value} {mfp:Fp} (hA:Eh w Fz as xs mfp) (hn:(mfp.map Fe.b).Nodup) (hF:∀ b,Fz b→b<w.heap.size) (h1:as.length≤nt) (h2:nt≤1000000) :
  MF (KW P E w Fz as xs mfp) nt w { tmps:=xs.toArray++Array.replicate (nt - xs.toArray.size) undef,defers:=[] } ⟨JR 0 as,0⟩:=by
 obtain ⟨hl,fs,hfl,rfl,hargs⟩:=hA.list
 have hsz:(xs.toArray++Array.replicate (nt - xs.toArray.size) undef).size=nt:=by simp;omega
 have hfd:∀ i f,fs[i]?=some f→∀ x∈f,x∈fs.flatten:=fun i f hi x hx=>mem_flatten.2 ⟨f,List.mem_of_getElem? hi,hx⟩
 have hfg:∀ k,fs.getD k []=(fs[k]?).getD []:=fun k=>List.getD_eq_getElem?_getD
 have hmz:∀ y∈fs.flatten,¬ Fz y.b:=by
  intro y hy
  obtain ⟨f,hf,hyf⟩:=mem_flatten.1 hy
  obtain ⟨i,hi⟩:=List.mem_iff_getElem?.1 hf
  have hia:i<as.length:=by
   have:=(List.getElem?_eq_some_iff.1 hi).1;omega
  obtain ⟨x,f',hx,hf',hR⟩:=hargs i _ (List.getElem?_eq_getElem hia)
  rw[hi] at hf'
  obtain rfl:=Option.some.inj hf'
  unfold cq at hR
  split at hR
  ·rw[hR.1] at hyf;simp at hyf
  ·obtain ⟨vs,-,hR⟩:=hR;exact (hR.lt y hyf).2.2.2
  ·obtain ⟨p,cs,-,hR⟩:=hR;exact (hR.lt y hyf).2.2.2
 refine ⟨⟨rfl,noLt,fun k=>if k<1000000 then xs.getD k undef else undef,fun k=>fs.getD k [],?_⟩,hsz,fun kx hkx => ?_⟩
 ·refine ⟨fun k hk => ?_,fun k => ?_,fun k => ?_,fun j k hjk x hx y hy => ?_,fun k f hf => ?_,fun _ _ h=>h.elim,fun j k hk => ?_,fun b hb=>⟨hF b hb,fun y hy e=>hmz y hy (e ▸ hb)⟩,Aw.refl _ _,?_⟩
  ·show (if k<1000000 then _ else _)=_
   rw[if_pos hk,PX]
  ·simp only[K8,Nat.zero_le,if_true,Nat.sub_zero]
   cases ha:as[k]? with
   | none =>
     have:as.length≤k:=by
      rcases Nat.lt_or_ge k as.length with h | h
      ·rw[List.getElem?_eq_getElem h] at ha;simp at ha
      ·exact h
     show fs.getD k []=[]
     rw[hfg,List.getElem?_eq_none (by omega)];rfl
   | some arg =>
     have hk:k<as.length:=(List.getElem?_eq_some_iff.1 ha).1
     obtain ⟨x,f,hx,hf,hR⟩:=hargs k arg ha
     have hcv:(if k<1000000 then xs.getD k undef else undef)=x:=by
      rw[if_pos (by omega),List.getD_eq_getElem?_getD,hx];rfl
     have hfk:fs.getD k []=f:=by rw[hfg,hf];rfl
     have hpin:(KW P E w Fz as xs fs.flatten).pinv (k+1)=cellsOf arg.v.agg x:=by
      simp only[KW,Nat.add_sub_cancel,ha,hx]
     obtain ⟨m,v⟩:=arg
     unfold cq at hR
     cases m with
     | val =>
       simp only at hR
       obtain ⟨hf0,vs,hc,hR⟩:=hR
       rw[hfk]
       exact ⟨vs,by simp only[hcv];exact hc,hR,fun h=>absurd rfl h⟩
     | io =>
       simp only at hR
       obtain ⟨vs,hc,hR⟩:=hR
       rw[hfk]
       exact ⟨vs,by simp only[hcv];exact hc,hR,fun _=>by rw[hpin];exact QE hc⟩
     | iop =>
       simp only at hR
       obtain ⟨p,cs,rfl,hR⟩:=hR
       rw[hfk]
       simp only[MH,Pg]
       exact ⟨by simp only[hcv];exact hR,fun h=>absurd rfl h⟩
  ·simp only[hfg]
   cases hf:fs[k]? with
   | none=>simp
   | some f=>exact HY hn hf
  ·simp only[hfg] at hx hy
   cases h1:fs[j]? with
   | none=>simp[h1] at hx
   | some f =>
     cases h2:fs[k]? with
     | none=>simp[h2] at hy
     | some f' =>
       simp only[h1,Option.getD_some] at hx
       simp only[h2,Option.getD_some] at hy
       exact HW hn h1 h2 hjk x hx y hy
  ·simp only[hfg] at hf
   cases h1:fs[k]? with
   | none=>simp[h1] at hf
   | some f' =>
     simp only[h1,Option.getD_some] at hf
     exact .inr ⟨f,hfd k f' h1 f hf,rfl,Nat.le_refl _,Nat.le_refl _⟩
  ·simp only[K8] at hk
   split at hk
   ·rw[QV] at hk;simp at hk
   ·simp[AA.looks] at hk
  ·show (xs.toArray++Array.replicate (nt - xs.toArray.size) undef).size≤1000000
   rw[hsz];exact h2
 ·obtain ⟨-,h3⟩:=Tc (i:=0) hkx
  show (xs.toArray++Array.replicate (nt - xs.toArray.size) undef).getD kx.1 undef=kx.2
  rw[PX,List.getD_eq_getElem?_getD]
  rw[Nat.sub_zero] at h3
  rw[h3];rfl
theorem NK (h:Db C w a σ Lt cv fp):∀ {ps:List (Nat × Fp)},(ps.map (·.1)).Nodup→(∀ x∈ps,(∀ y∈x.2,y∈fp x.1)∧(x.2.map Fe.b).Nodup)→(((ps.map (·.2)).flatten).map Fe.b).Nodup
 | [],_,_=>by simp
 | p::ps,hn,hf=>by
   simp only[map_cons,nodup_cons] at hn
   simp only[map_cons,flatten_cons,map_append,nodup_append]
   obtain ⟨h1,h2⟩:=hf p (by simp)
   refine ⟨h2,NK h hn.2 fun x hx=>hf x (mem_cons_of_mem _ hx),fun b hb b' hb' e => ?_⟩
   obtain ⟨x,hx,rfl⟩:=mem_map.1 hb
   obtain ⟨y,hy,rfl⟩:=mem_map.1 hb'
   obtain ⟨f,hf',hyf⟩:=mem_flatten.1 hy
   obtain ⟨q,hq,rfl⟩:=mem_map.1 hf'
   have hne:p.1≠q.1:=fun e=>hn.1 (e ▸ mem_map.2 ⟨q,hq,rfl⟩)
   exact h.disj p.1 q.1 hne x (h1 x hx) y ((hf q (mem_cons_of_mem _ hq)).1 y hyf) e
def TA (tmps:Array Value):ResultVar→Sem Value
 | .tmp t=>pure (tmps.getD t undef)
 | .cell x t=>do loadVar t (← asAddr (tmps.getD x undef))
theorem JM (h:Db C w a σ Lt cv fp) (hE:DO C.P C.E):∀ {l:List ResultVar} {results:List (Nat × Option (Bool × Nat))} {rs:List V},G7 C.E l results=true→(∀ t∈results.map (·.1),t<1000000)→Ra σ.env results=some rs →
  ∃ vs fs,(l.mapM (TA a.tmps)).run C.P w = .ok vs w∧HS w C.Fz Lt σ.g rs vs fs ∧
   ∃ ps:List (Nat × Fp),ps.map (·.1)=results.map (·.1)∧ps.map (·.2)=fs∧∀ x∈ps,(∀ y∈x.2,y∈fp x.1)∧(x.2.map Fe.b).Nodup
 | [],[],rs,_,_,hr=>by
   simp only[Ra,zS] at hr
   subst hr
   exact ⟨[],[],rfl,.nil,[],rfl,rfl,by simp⟩
 | [],_::_,rs,ht,_,_=>by simp[G7] at ht
 | .tmp t::l,[],rs,ht,_,_=>by simp[G7] at ht
 | .cell x t::l,[],rs,ht,_,_=>by simp[G7] at ht
 | .tmp t::l,(t',some c)::results,rs,ht,_,_=>by simp[G7] at ht
 | .cell x t::l,(t',none)::results,rs,ht,_,_=>by simp[G7] at ht
 | .tmp t::l,(t',none)::results,rs,ht,hlt,hr=>by
   simp only[G7,zB,beq_iff_eq] at ht
   obtain ⟨rfl,ht⟩:=ht
   simp only[Ra] at hr
   split at hr
   ·simp at hr
   rename_i v hv
   split at hr
   ·simp at hr
   rename_i vs1 hvs
   simp only[zS] at hr
   subst hr
   obtain ⟨vs,fs,h1,h2,ps,h3,h4,h5⟩:=JM h hE ht (fun t ht=>hlt t (by simp only[map_cons,mem_cons];exact .inr ht)) hvs
   have ht0:t<1000000:=hlt t (by simp)
   have hs:=h.slots t
   have hone:∃ us f,AE v.agg (cv t) us∧R w C.Fz Lt σ.g v.p v.cs us f∧f=fp t:=by
    unfold gj at hv
    split at hv
    ·rename_i hg
     rw[hg] at hs
     simp only[zS] at hv
     subst hv
     obtain ⟨us,c1,c2,-⟩:=hs
     exact ⟨us,_,c1,c2,rfl⟩
    ·rename_i hg
     rw[hg] at hs
     simp only[zS] at hv
     subst hv
     exact ⟨[cv t],_,by simp[AE],hs.1,rfl⟩
    ·simp_all
    ·simp at hv
   obtain ⟨us,f,c1,c2,rfl⟩:=hone
   refine ⟨cv t::vs,fp t::fs,?_,.cons c1 c2 h2,(t,fp t)::ps,by simp[h3],by simp[h4],fun x hx => ?_⟩
   ·simp only[mapM_cons,TA,Sem.run_bind,Sem.run_pure,Result.andThen_ok,h1,h.tmps t ht0]
   ·rw[mem_cons] at hx
    rcases hx with rfl | hx
    ·exact ⟨fun _ hy=>hy,h.nodup t⟩
    ·exact h5 x hx
 | .cell x t::l,(t',some (ag,n))::results,rs,ht,hlt,hr=>by
   simp only[G7,zB,beq_iff_eq] at ht
   obtain ⟨⟨rfl,hty⟩,ht⟩:=ht
   split at hty
   ·rename_i d hd
    simp only[zB,beq_iff_eq] at hty
    obtain ⟨rfl,rfl⟩:=hty
    simp only[Ra] at hr
    split at hr
    ·simp at hr
    rename_i v hv
    split at hr
    ·simp at hr
    rename_i vs1 hvs
    simp only[zS] at hr
    subst hr
    obtain ⟨vs,fs,h1,h2,ps,h3,h4,h5⟩:=JM h hE ht (fun t ht=>hlt t (by simp only[map_cons,mem_cons];exact .inr ht)) hvs
    have ht0:x<1000000:=hlt x (by simp)
    have hs:=h.slots x
    unfold gj at hv
    split at hv
    ·simp_all
    ·simp_all
    ·rename_i a1 n1 p cs dd hcell hg
     simp only[zS,zP] at hcell
     obtain ⟨rfl,rfl⟩:=hcell
     split at hv
     ·rename_i hpl
      have hpl:p.length=d.sz:=by simpa using hpl
      simp only[zS] at hv
      subst hv
      obtain ⟨vs0,base0,fI,hrv,hR,hsub,hk⟩:=hs.rootR (s:=AO σ.env x) (p:=p) (cs:=cs) (d:=dd) (by rw[hg];rfl)
      rcases hk with ⟨_,_,e,_⟩ | ⟨pin,b,off,row,e,fr,e1,e2,hcv,hb,e3,hsz,hfp,-⟩
      ·rw[hg] at e;simp at e
      ·obtain ⟨u,k1,k2⟩:=I2 (P:=C.P) (E:=C.E) (t:=t) (hE t d hd) hb (by omega:off+d.sz≤row.size)
       have hnI:(fI.map Fe.b).Nodup:=by
        have:=h.nodup x
        rw[hfp] at this
        simp only[map_cons,nodup_cons] at this
        exact this.2
       refine ⟨u::vs,fI::fs,?_,.cons k2 (by rw[← hpl,← e3];exact hR) h2,(x,fI)::ps,by simp[h3],by simp[h4],fun y hy => ?_⟩
       ·have ha:∀ ad,asAddr (.pointer (some ad))=(pure ad:Sem Addr):=fun _=>rfl
        simp only[mapM_cons,TA,Sem.run_bind,Sem.run_pure,Result.andThen_ok,h1,← h.tmps x ht0,hcv,ha,k1]
       ·rw[mem_cons] at hy
        rcases hy with rfl | hy
        ·exact ⟨hsub,hnI⟩
        ·exact h5 y hy
     ·simp at hv
    ·simp at hv
   ·simp at hty
end
section
variable {C:DN} {w w':World} {a a':Act} {σ τ:AS} {Lt Lt':Nat→Nat→Prop} {cv cv':Nat→Value} {fp fpU:Nat→Fp} {g g' n:Nat} {env env':List (Nat × AA)} {o:Oper} {Fz Fz':Nat→Prop}
theorem Ik (h:Db C w a σ Lt cv fp):∀ {as:List Ae} {xs:List Value} {i:Nat} {outs:List Nat} {os:List (Option V)},xs.length=as.length →
  (∀ j arg,as[j]?=some arg→∃ x,xs[j]?=some x∧(arg.m = .io→∃ vs,AE arg.v.agg x vs∧C.pinv (i+j+1)=vs)∧(arg.m = .iop→cv (i+j)=x)) →
  Kf σ.env i (as.map (·.m)) outs=some os →
  ∃ fo,GC w C.Fz Lt σ.g as xs os fo∧∃ ps:List (Nat × Fp),(ps.map (·.1)).Sublist outs∧(ps.map (·.2)).flatten=fo∧∀ x∈ps,(∀ y∈x.2,y∈fp x.1)∧(x.2.map Fe.b).Nodup
 | [],xs,i,outs,os,hl,_,ho=>by
   have:xs=[]:=length_eq_zero_iff.1 hl
   subst this
   simp only[map_nil,Kf,zS] at ho
   subst ho
   exact ⟨[],.nil,[],by simp,rfl,by simp⟩
 | _::_,[],i,outs,os,hl,_,_=>by simp at hl
 | ⟨m,v⟩::as,x::xs,i,outs,os,hl,ha,ho=>by
   have hl':xs.length=as.length:=by simpa using hl
   have ha':∀ j arg,as[j]?=some arg→∃ x,xs[j]?=some x∧(arg.m = .io→∃ vs,AE arg.v.agg x vs∧C.pinv (i+1+j+1)=vs)∧(arg.m = .iop→cv (i+1+j)=x):=by
    intro j arg hj
    obtain ⟨x',h1,h2,h3⟩:=ha (j+1) arg (by simpa using hj)
    refine ⟨x',by simpa using h1,?_,?_⟩
    ·intro hm;have:=h2 hm;rwa [show i+(j+1)+1=i+1+j+1 by omega] at this
    ·intro hm;have:=h3 hm;rwa [show i+(j+1)=i+1+j by omega] at this
   obtain ⟨x0,hx0,hio,hiop⟩:=ha 0 ⟨m,v⟩ rfl
   simp only[List.getElem?_cons_zero,zS] at hx0
   subst hx0
   rw[Nat.add_zero] at hio hiop
   cases m with
   | val =>
     simp only[map_cons,Kf] at ho
     split at ho
     ·simp at ho
     rename_i vs hvs
     simp only[zS] at ho
     subst ho
     obtain ⟨fo,h1,h2⟩:=Ik h hl' ha' hvs
     exact ⟨fo,.val h1,h2⟩
   | io =>
     cases outs with
     | nil=>simp[Kf] at ho
     | cons t ts =>
       simp only[map_cons,Kf] at ho
       split at ho
       ·simp at ho
       rename_i ov hov
       split at ho
       ·simp at ho
       rename_i vs hvs
       simp only[zS] at ho
       subst ho
       obtain ⟨fo,h1,ps,h2,h3,h4⟩:=Ik h hl' ha' hvs
       obtain ⟨us,hc,hpin⟩:=hio rfl
       have hs:=h.slots t
       have key:∃ f,R w C.Fz Lt σ.g ov.p ov.cs us f∧(∀ y∈f,y∈fp t)∧(f.map Fe.b).Nodup:=by
        unfold gK at hov
        split at hov
        ·rename_i hg
         split at hov
         ·rename_i hp
          simp only[zS] at hov
          subst hov
          rw[hg] at hs
          obtain ⟨us',c1,c2,c3⟩:=hs
          have:=c3 (by omega)
          rw[hp,hpin] at this
          subst this
          exact ⟨_,c2,fun _ h=>h,h.nodup t⟩
         ·simp at hov
        ·rename_i p cs dd pin _ hg
         split at hov
         ·rename_i hp
          simp only[zS] at hov
          subst hov
          obtain ⟨vs0,base0,fI,hrv,hR,hsub,hk⟩:=hs.rootR (s:=AO σ.env t) (p:=p) (cs:=cs) (d:=dd) (by rw[hg];rfl)
          rcases hk with ⟨_,_,e,_⟩ | ⟨pin',b,off,row,e,fr,e1,e2,hcv,hb,e3,hsz,hfp,-⟩
          ·rw[hg] at e;simp at e
          ·rw[hg] at hs
           obtain ⟨b2,off2,row2,ee,fr2,d1,d2,d3⟩:=hs.2 (by omega)
           rw[hcv] at d1
           obtain ⟨rfl,rfl⟩:b=b2∧off=off2:=by simpa using d1
           rw[hb] at d2
           obtain ⟨rfl,rfl,rfl⟩:row=row2∧e=ee∧fr=fr2:=by simpa using d2
           rw[hp,hpin] at d3
           have hn:=h.nodup t
           rw[hfp] at hn
           simp only[map_cons,nodup_cons] at hn
           exact ⟨fI,by rw[← d3,← e3];exact hR,hsub,hn.2⟩
         ·simp at hov
        ·simp_all
        ·simp at hov
       obtain ⟨f,k1,k2,k3⟩:=key
       refine ⟨f++fo,.io hc k1 h1,(t,f)::ps,by simpa using h2,by simp[h3],fun y hy => ?_⟩
       rw[mem_cons] at hy
       rcases hy with rfl | hy
       ·exact ⟨k2,k3⟩
       ·exact h4 y hy
   | iop =>
     cases outs with
     | nil=>simp[Kf] at ho
     | cons t ts =>
       simp only[map_cons,Kf] at ho
       split at ho
       ·simp at ho
       rename_i ov hov
       split at ho
       ·simp at ho
       rename_i vs hvs
       simp only[zS] at ho
       subst ho
       obtain ⟨fo,h1,ps,h2,h3,h4⟩:=Ik h hl' ha' hvs
       have hs:=h.slots t
       unfold gK at hov
       split at hov
       ·simp_all
       ·simp_all
       ·rename_i p cs dd _ hg
        split at hov
        ·rename_i hti
         subst hti
         simp only[zS] at hov
         subst hov
         rw[hg] at hs
         have hR:=hs.1
         rw[hiop rfl] at hR
         refine ⟨fp t++fo,.iop hR h1,(t,fp t)::ps,by simpa using h2,by simp[h3],fun y hy => ?_⟩
         rw[mem_cons] at hy
         rcases hy with rfl | hy
         ·exact ⟨fun _ h=>h,h.nodup _⟩
         ·exact h4 y hy
        ·simp at hov
       ·simp at hov
theorem HS.anyFz {rs:List V} {xs:List Value} {fs:List Fp} (h:HS w Fz Lt g rs xs fs) (hc:(rs.all fun v=>clean2s v.p)=true) (hF:∀ b,Fz' b→Fz b):HS w Fz' Lt g rs xs fs:=by
 induction h with
 | nil=>exact .nil
 | cons h hR _ ih =>
   simp only[all_cons,zB] at hc
   exact .cons h (hR.anyFz hc.1 fun f hf hb=>(hR.lt f hf).2.2.2 (hF _ hb)) (ih hc.2)
theorem GC.anyFz {as:List Ae} {xs:List Value} {os:List (Option V)} {fo:Fp} (h:GC w Fz Lt g as xs os fo) (hc:Mq os=true) (hF:∀ b,Fz' b→Fz b):GC w Fz' Lt g as xs os fo:=by
 unfold Mq at hc
 induction h with
 | nil=>exact .nil
 | val _ ih =>
   simp only[all_cons,zB] at hc
   exact .val (ih hc.2)
 | io h hR _ ih =>
   simp only[all_cons,zB] at hc
   exact .io h (hR.anyFz hc.1 fun f hf hb=>(hR.lt f hf).2.2.2 (hF _ hb)) (ih hc.2)
 | iop hR _ ih =>
   simp only[all_cons,zB] at hc
   exact .iop (hR.anyFz hc.1 fun f hf hb=>(hR.lt f hf).2.2.2 (hF _ hb)) (ih hc.2)
theorem cb {P:Program} {E:A4} (hm:P.follows .mixedOrders=true) (hE:DO P E) {N f:Nat} (ih:∀ f,Kz P (Ak E N) f) {c:Code} {modes:List DG} {outs:List Nat} {ress:List (Nat × Option (Bool × Nat))} {keep:List (Nat × List Nat)}
  {as:List Ae} {r:Ec} (hs:ES modes as=true) (h:TF modes outs ress keep (Ao E (Ak E N) N keep c ⟨JR 0 as,0⟩)=some r) (ht:Cm P E f (.code c modes outs ress keep))
  {xs:List Value} {mfp:Fp} (hA:Eh w Fz as xs mfp) (hn:(mfp.map Fe.b).Nodup) (hF:∀ b,Fz b→b<w.heap.size):Sl P f xs.toArray w (MB w Fz as xs mfp r):=by
 obtain ⟨fn,hf,hname,hb,htab⟩:=ht
 unfold Wl at htab
 simp only[zB,Nat.ble_eq,all_eq_true] at htab
 obtain ⟨⟨⟨⟨t1,t2⟩,t3⟩,t4⟩,t5⟩:=htab
 have t5:∀ t∈ress.map (·.1)++outs,t<1000000:=fun t ht=>by simpa using t5 t ht
 obtain ⟨hml,hmm⟩:=KI hs
 obtain ⟨hxl,fs,hfl,hflat,hargs⟩:=hA.list
 right
 refine ⟨?_,?_⟩
 ·have h1 : fn.name ≠ "runtime.NumGoroutine" := by simpa using hname
  simp[callFunc,hf,h1,hb]
 ·have hst:=Zr (P:=P) (E:=E) hA hn hF (by omega:as.length≤fn.ntmps) t2
  unfold TF at h
  split at h
  ·simp at h
  ·simp at h
  ·rename_i ex σ' hnex hev
   split at h
   ·simp at h
   rename_i rs hrs
   split at h
   ·simp at h
   rename_i os hos
   split at h
   ·rename_i hnd
    rw[zB] at hnd
    obtain ⟨hnd,hcl⟩:=hnd
    have hnd:=CC hnd
    simp only[zS] at h
    subst h
    have hks:(KW P E w Fz as xs mfp).fx.map (·.1)=RE 0 modes:=by
     show (Oo 0 as xs).map (·.1)=_
     rw[Rf 0 hxl,hmm]
    have hpost:∀ B' a' w',(KW P E w Fz as xs mfp).On keep (KW P E w Fz as xs mfp).base B'→MF ((KW P E w Fz as xs mfp).re B') fn.ntmps w' a' σ'→a'.defers=[]∧∃ v,(results fn a'.tmps).run P w' = .ok v w'∧MB w Fz as xs mfp ⟨rs,os⟩ v w' :=by
     intro B' a' w' hOn hs'
     have hFz:∀ b,Fz b→B'.Fz b:=hOn.1.fz
     obtain ⟨⟨hdf,Lt,cv,fp,hst'⟩,hsz,hfx⟩:=hs'
     refine ⟨hdf,?_⟩
     obtain ⟨vs,frs,r1,r2,ps,r3,r4,r5⟩:=JM hst' hE t4 (fun t ht=>t5 t (mem_append.2 (.inl ht))) hrs
     rw[hmm] at hos
     obtain ⟨fo,o1,po,o2,o3,o4⟩:=Ik hst' (i:=0) hxl (fun j arg hj=>by
      obtain ⟨x,f,hx,hf',hR⟩:=hargs j arg hj
      refine ⟨x,hx,fun hio => ?_,fun hiop => ?_⟩
      ·unfold cq at hR
       rw[hio] at hR
       obtain ⟨vs,hc,-⟩:=hR
       refine ⟨vs,hc,?_⟩
       show (match as[0+j+1 - 1]?,xs[0+j+1 - 1]? with | some a,some x=>cellsOf a.v.agg x | _,_=>[])=vs
       rw[Nat.zero_add,Nat.add_sub_cancel,hj,hx]
       exact QE hc
      ·have:=VJ (i:=0) hj hiop hx
       have h2:=hfx _ this
       simp only[Nat.zero_add] at h2 ⊢
       have hjl:j<1000000:=by
        have:=(List.getElem?_eq_some_iff.1 hj).1;omega
       rw[hst'.tmps j hjl];exact h2) hos
     have hcl2:HS w' Fz Lt σ'.g rs vs frs∧GC w' Fz Lt σ'.g as xs os fo:=by
      cases hkf:IG keep with
      | true =>
        have e:B'.Fz=Fz:=hOn.2 hkf
        rw[← e]
        exact ⟨r2,o1⟩
      | false =>
        rw[hkf,Bool.false_or,zB] at hcl
        exact ⟨r2.anyFz hcl.1 hFz,o1.anyFz hcl.2 hFz⟩
     obtain ⟨r2,o1⟩:=hcl2
     have hv:∃ v,(results fn a'.tmps).run P w' = .ok v w'∧R9 w' Fz Lt σ'.g rs v frs:=by
      have hres:results fn a'.tmps=(do
        let vs ← fn.results.mapM (TA a'.tmps)
        pure (if h:vs.size=1 then vs[0] else .tuple vs):Sem Value):=rfl
      rw[hres,Array.mapM_eq_mapM_toList]
      simp only[Sem.run_bind,Sem.run_map]
      have r1' :=r1
      have hl:=r2.length.1
      have hsize:∀ {v},vs=[v]→rs.length=1:=fun e=>by rw[e] at hl;simpa using hl.symm
      rw[show ((KW P E w Fz as xs mfp).re B').P=P from rfl] at r1'
      rw[r1']
      simp only[Result.andThen_ok,Sem.run_pure]
      refine ⟨_,rfl,vs,r2,?_⟩
      match rs,hl with
      | [u],hl =>
        obtain ⟨v,rfl⟩:=length_eq_one_iff.1 hl
        simp
      | [],hl =>
        have:vs=[]:=length_eq_zero_iff.1 hl
        subst this
        simp
      | _::_::_,hl =>
        have:¬ vs.toArray.size=1:=by simp only[List.size_toArray,hl,length_cons];omega
        simp only[this,dite_false]
     obtain ⟨v,hv1,hv2⟩:=hv
     refine ⟨v,hv1,hOn.1.ext.trans hst'.ext (fun _ _ h=>h) (fun _ _ hb hm=>hOn.1.muts hb hm),Lt,σ'.g,frs,fo,hv2,o1,?_,fun x hx => ?_⟩
     ·have:frs.flatten++fo=((ps++po).map (·.2)).flatten:=by rw[map_append,List.flatten_append,r4,o3]
      rw[this]
      refine NK hst' ?_ fun x hx => ?_
      ·rw[map_append,r3]
       exact hnd.sublist (List.Sublist.append (List.Sublist.refl _) o2)
      ·rw[mem_append] at hx
       rcases hx with hx | hx
       ·exact r5 x hx
       ·exact o4 x hx
     ·have:∃ t,x∈fp t:=by
       rw[mem_append] at hx
       rcases hx with hx | hx
       ·rw[← r4] at hx
        obtain ⟨f,hf',hxf⟩:=mem_flatten.1 hx
        obtain ⟨q,hq,rfl⟩:=mem_map.1 hf'
        exact ⟨q.1,(r5 q hq).1 x hxf⟩
       ·rw[← o3] at hx
        obtain ⟨f,hf',hxf⟩:=mem_flatten.1 hx
        obtain ⟨q,hq,rfl⟩:=mem_map.1 hf'
        exact ⟨q.1,(o4 q hq).1 x hxf⟩
      obtain ⟨t,ht⟩:=this
      exact hOn.1.ok (hst'.wok t x ht)
    refine calls_of_wp hf hb ?_
    refine TK (C:=KW P E w Fz as xs mfp) (n:=fn.ntmps) (B:=(KW P E w Fz as xs mfp).base) hm hE ih hev (by rw[hks];exact t3) hst fun B' a' w' hB hs' => ?_
    cases ex with
    | normal=>exact hpost B' a' w' hB hs'
    | ret=>exact hpost B' a' w' hB hs'
    | exit id=>exact (hnex id rfl).elim
   ·simp at h
theorem fG {P:Program} {f:Nat} {hx:List T→Option (List (Bool × List Pm × List T))} {as:List Ae} {rs:List (Bool × List Pm × List T)} (hv:(as.all G0)=true) (h:hx (as.flatMap fun a=>a.v.cs)=some rs) (ht:bo P f hx)
  {xs:List Value} {mfp:Fp} (hA:Eh w Fz as xs mfp):Sl P f xs.toArray w (MB w Fz as xs mfp ⟨rs.map fun x=>⟨x.1,x.2.1,x.2.2⟩,as.map fun _=>none⟩):=by
 have hm:mfp=[]∧∀ (w':World) (L:Nat→Nat→Prop) (g:Nat),GC w' Fz L g as xs (as.map fun _=>none) []:=by
  clear h
  induction hA with
  | nil=>exact ⟨rfl,fun _ _ _ => .nil⟩
  | val hc hR r ih =>
    simp only[all_cons,zB] at hv
    exact ⟨(ih hv.2).1,fun w' L g => .val ((ih hv.2).2 w' L g)⟩
  | io=>simp[G0] at hv
  | iop=>simp[G0] at hv
 obtain ⟨rfl,hO⟩:=hm
 obtain ⟨v,w',h1,h2,fr,h3,h4,h5⟩:=ht _ rs h w Fz as xs hA hv rfl
 refine .inl ⟨v,w',h1,h2.mono (by simp),noLt,0,fr,[],h3,hO w' _ _,by simpa using h4,fun x hx' => .inl (h5 x (by simpa using hx'))⟩
theorem bo.ok {P:Program} {f:Nat} {hx:List T→Option (List (Bool × List Pm × List T))} (ht:bo P f hx):IC P f hx:=by
 intro as r h w Fz xs mfp hA _ _
 simp only[bY] at h
 split at h
 ·rename_i hv
  split at h
  ·simp at h
  ·rename_i rs hrs
   simp only[zS] at h
   subst h
   exact fG hv hrs ht hA
 ·simp at h
theorem J4 {P:Program} {E:A4} (hm:P.follows .mixedOrders=true) (hE:DO P E) (hT:∀ f fd,E.fn f=some fd→Cm P E f fd):∀ (N:Nat) (f:Nat),Kz P (Ak E N) f:=by
 intro N
 induction N with
 | zero=>intro f as r h;simp[Ak] at h
 | succ N ih =>
   intro f as r h w Fz xs mfp hA hn hF
   simp only[Ak] at h
   split at h
   ·simp at h
   ·rename_i hx hfd
    exact hT f _ hfd as r h w Fz xs mfp hA hn hF
   ·rename_i hx hfd
    exact hT f _ hfd as r h w Fz xs mfp hA hn hF
   ·rename_i c modes outs results keep hfd
    split at h
    ·rename_i hs
     exact cb hm hE ih hs h (hT f _ hfd) hA hn hF
    ·simp at h
end
def Lf (E:A4):Nat→List (Nat × Nat)→List Pm→Bool
 | _,[],[]=>true
 | o,(off,ty)::r,ps=>Nat.beq off o&&(match E.ty ty with
   | some d=>Nat.ble d.sz ps.length&&pbeqs (ps.take d.sz) d.own&&Lf E (o+d.sz) r (ps.drop d.sz)
   | none=>false)
 | _,_,_=>false
def Vw (E:A4) (d:TD):Bool:=match d.kd with
 | .int _=>pbeqs d.own [.leaf]
 | .flt _=>pbeqs d.own [.leaf]
 | .bool=>pbeqs d.own [.leaf]
 | .str=>pbeqs d.own [.leaf]
 | .slc e=>match E.ty e with
   | some de=>pbeqs d.own [.sl .own de.own]
   | none=>false
 | .st fs=>Lf E 0 fs d.own
 | _=>true
def Df (E:A4):Nat→Nat→Bool
 | 0,_=>false
 | n+1,t=>match E.ty t with
   | none=>false
   | some d=>Vw E d&&(match d.kd with
     | .int _=>true
     | .flt _=>true
     | .bool=>true
     | .str=>true
     | .slc e=>Df E n e
     | .st fs=>fs.all fun f=>Df E n f.2
     | _=>false)
mutual
inductive WT (E:A4):Nat→List T→Prop
 | int {t d k n} (h:E.ty t=some d) (hk:d.kd = .int k) (h1:k.min≤n) (h2:n≤k.max):WT E t [.int k n]
 | flt {t d k x} (h:E.ty t=some d) (hk:d.kd = .flt k) (h1:At k x=x) (h2:(Lit.float k x).wf=true):WT E t [.flt k x]
 | bool {t d b} (h:E.ty t=some d) (hk:d.kd = .bool):WT E t [.bool b]
 | str {t d s} (h:E.ty t=some d) (hk:d.kd = .str) (hl:s.length≤maxLen):WT E t [.str s]
 | slc {t d e n cs} (h:E.ty t=some d) (hk:d.kd = .slc e) (hl:n≤maxLen) (hs:WTs E e n cs):WT E t [.lst n cs]
 | st {t d fs cs} (h:E.ty t=some d) (hk:d.kd = .st fs) (hf:WTf E fs cs):WT E t cs
inductive WTs (E:A4):Nat→Nat→List T→Prop
 | nil {e}:WTs E e 0 []
 | snoc {e n cs c} (h:WTs E e n cs) (hc:WT E e c):WTs E e (n+1) (cs++c)
inductive WTf (E:A4):List (Nat × Nat)→List T→Prop
 | nil:WTf E [] []
 | cons {off ty r c cs} (hc:WT E ty c) (h:WTf E r cs):WTf E ((off,ty)::r) (c++cs)
end
theorem Mc {α β:Type} {f:α→Option β}:∀ {l:List α} {r:List β},l.mapM f=some r→r.length=l.length∧∀ (i:Nat) (x:α),l[i]?=some x→∃ y,r[i]?=some y∧f x=some y
 | [],r,h=>by
   simp only[List.mapM_nil] at h
   have:r=[]:=(Option.some.inj h).symm
   subst this
   exact ⟨rfl,by simp⟩
 | a::l,r,h=>by
   simp only[mapM_cons,Option.bind_eq_bind] at h
   cases ha:f a with
   | none=>simp[ha] at h
   | some b =>
     cases hl:l.mapM f with
     | none=>simp[ha,hl] at h
     | some bs =>
       simp[ha,hl] at h
       subst h
       obtain ⟨h1,h2⟩:=Mc hl
       refine ⟨by simp[h1],fun i x hx => ?_⟩
       cases i with
       | zero =>
         simp only[List.getElem?_cons_zero,zS] at hx
         subst hx
         exact ⟨b,rfl,ha⟩
       | succ i=>simpa using h2 i x (by simpa using hx)
theorem Pu {w:World} {base:Nat} {a:Addr} {n:Nat} {vs:List Value} (h:w.cells? base a n=some vs) (hn:0<n) :
  ∃ row e fr,w.heap[a.block]?=some (.cells row e fr)∧a.spot=none∧vs=seg row a.off n∧a.off+n≤row.size:=by
 unfold World.cells? at h
 split at h
 ·obtain ⟨hl,hv⟩:=Mc h
  have hl:vs.length=n:=by simpa using hl
  have key:∀ i,i<n→∃ v,vs[i]?=some v∧w.cell? (a.add i)=some v:=fun i hi=>hv i i (by simp[hi])
  obtain ⟨v0,-,hv0⟩:=key 0 hn
  simp only[World.cell?,Addr.add,if_true] at hv0
  split at hv0
  ·rename_i row e fr hb
   split at hv0
   ·simp at hv0
   rename_i hsp
   have hsp:a.spot=none:=by cases hs:a.spot <;>simp[hs] at hsp;rfl
   have hcell:∀ i,i<n→vs[i]?=row[a.off+i]? :=by
    intro i hi
    obtain ⟨v,h1,h2⟩:=key i hi
    rw[h1]
    unfold World.cell? Addr.add at h2
    by_cases hi0:i=0
    ·subst hi0
     simp only[if_true,hb,hsp,Option.isSome_none,Bool.false_eq_true,if_false] at h2
     rw[Nat.add_zero,h2]
    ·simp only[hi0,if_false,hb,Option.isSome_none,Bool.false_eq_true] at h2
     rw[h2]
   have hsize:a.off+n≤row.size:=by
    have h1:=hcell (n - 1) (by omega)
    rw[List.getElem?_eq_getElem (by omega)] at h1
    have:=(Array.getElem?_eq_some_iff.1 h1.symm).1
    omega
   refine ⟨row,e,fr,hb,hsp,?_,hsize⟩
   apply List.ext_getElem?
   intro i
   rw[seg_getElem?]
   split
   ·rename_i hi;exact hcell i hi
   ·rename_i hi;rw[List.getElem?_eq_none (by omega)]
  ·simp at hv0
 ·simp at h
theorem ZI {row:Array Value} {off m n:Nat}:seg row off (m+n)=seg row off m++seg row (off+m) n:=by
 unfold seg
 rw[List.take_add,drop_drop]
section
variable {P:Program} {E:A4} {w:World} {H:Type} {enc:TypeId × Value→H}
theorem JL {t:Nat} {d:TD} (h:KF P E t d):P.cellsOf t=d.sz:=by
 obtain ⟨i,z,h1,h2,-⟩:=h.info
 unfold Program.cellsOf
 simp[h1,h2]
theorem R.fields {Fz:Nat→Prop} {n:Nat} (hE:DO P E) {read:Nat→List Value→Option (DataW H × List MemPlace)} {cs:List Value} (hread:∀ ty d vs x,E.ty ty=some d→read ty vs=some x→Df E n ty=true→∃ ts,R w Fz noLt 0 (shares d.own) ts vs []∧WT E ty ts) :
  ∀ {fields:List Field} {fs:List (Nat × Nat)} {o:Nat} {ps:List Pm} {xs},fields.map (fun f=>(f.offset,f.type))=fs→Lf E o fs ps=true→(∀ f∈fs,Df E n f.2=true) →
   fields.mapM (fun f=>read f.type ((cs.drop f.offset).take (P.cellsOf f.type)))=some xs→∃ ts,R w Fz noLt 0 (shares ps) ts ((cs.drop o).take ps.length) []∧WTf E fs ts:=by
 intro fields
 induction fields with
 | nil =>
   intro fs o ps xs hfs hb _ _
   simp only[map_nil] at hfs
   subst hfs
   cases ps with
   | nil=>exact ⟨[],by simpa [shares] using R.nil,.nil⟩
   | cons=>simp[Lf] at hb
 | cons f fields ih =>
   intro fs o ps xs hfs hb hp hm
   simp only[map_cons] at hfs
   subst hfs
   simp only[Lf,zB,Nat.beq_eq] at hb
   obtain ⟨h1,hb⟩:=hb
   split at hb
   ·rename_i d hd
    simp only[zB,Nat.ble_eq] at hb
    obtain ⟨⟨hb1,hb2⟩,hb3⟩:=hb
    have hb2:=pbeqs_eq hb2
    simp only[mapM_cons,Option.bind_eq_bind] at hm
    cases hr:read f.type ((cs.drop f.offset).take (P.cellsOf f.type)) with
    | none=>simp[hr] at hm
    | some x =>
      cases hl:fields.mapM (fun f=>read f.type ((cs.drop f.offset).take (P.cellsOf f.type))) with
      | none=>simp[hr,hl] at hm
      | some ys =>
        obtain ⟨ts1,r1,w1⟩:=hread _ d _ x hd hr (hp (f.offset,f.type) (by simp))
        obtain ⟨ts2,r2,w2⟩:=ih rfl hb3 (fun f hf=>hp f (mem_cons_of_mem _ hf)) hl
        refine ⟨ts1++ts2,?_,.cons w1 w2⟩
        have hsz:=JL (hE _ _ hd)
        rw[hsz,h1] at r1
        have es:shares ps=shares d.own++shares (ps.drop d.sz):=by rw[← Kb,← hb2,take_append_drop]
        have e2:(cs.drop o).take ps.length=(cs.drop o).take d.sz++(cs.drop (o+d.sz)).take (ps.drop d.sz).length:=by
         have:ps.length=d.sz+(ps.drop d.sz).length:=by rw[length_drop];omega
         rw[this,List.take_add,drop_drop]
        rw[es,e2]
        exact r1.append r2
   ·simp at hb
theorem eF {Fz:Nat→Prop} (hE:DO P E) (hFz:∀ b,b<w.heap.size→Fz b) {spare:Nat→Bool}:∀ {fuel n t:Nat} {cs:List Value} {d:TD} {x},E.ty t=some d→Df E n t=true→DataW.trod enc P w 0 spare true fuel t cs=some x →
  ∃ ts,R w Fz noLt 0 (shares d.own) ts cs []∧WT E t ts:=by
 intro fuel
 induction fuel with
 | zero=>intro n t cs d x _ _ h;simp[DataW.trod] at h
 | succ fuel ih =>
   intro n t cs d x hd hp h
   cases n with
   | zero=>simp[Df] at hp
   | succ n =>
     simp only[Df,hd,zB] at hp
     obtain ⟨ho,hk⟩:=hp
     obtain ⟨u,hu,hkd,-⟩:=(hE t d hd).und
     simp only[DataW.trod,hu] at h
     unfold Iv at hkd
     cases hkk:d.kd with
     | int k =>
       simp only[hkk] at hkd
       subst hkd
       simp only[Vw,hkk] at ho
       rw[pbeqs_eq ho]
       split at h <;>try (simp_all;done)
       rename_i k1 k' m hcs
       simp only[zS,TypeDesc.int.injEq] at hcs
       subst hcs
       split at h
       ·rename_i hc
        obtain ⟨rfl,hw⟩:=hc
        simp only[Lit.wf,zB,decide_eq_true_eq] at hw
        exact ⟨[.int k' m],.leaf rfl .nil,.int hd hkk hw.1 hw.2⟩
       ·simp at h
     | flt k =>
       simp only[hkk] at hkd
       subst hkd
       simp only[Vw,hkk] at ho
       rw[pbeqs_eq ho]
       split at h <;>try (simp_all;done)
       rename_i k1 k' m hcs
       simp only[zS,TypeDesc.float.injEq] at hcs
       subst hcs
       split at h
       ·rename_i hc
        obtain ⟨rfl,hw⟩:=hc
        refine ⟨[.flt k' (At k' m)],.leaf ⟨m,rfl,rfl⟩ .nil,.flt hd hkk (V7 _ _) ?_⟩
        unfold At
        split
        ·cases k' <;>rfl
        ·exact hw
       ·simp at h
     | bool =>
       simp only[hkk] at hkd
       subst hkd
       simp only[Vw,hkk] at ho
       rw[pbeqs_eq ho]
       split at h <;>try (simp_all;done)
       rename_i b _
       exact ⟨[.bool b],.leaf rfl .nil,.bool hd hkk⟩
     | str =>
       simp only[hkk] at hkd
       subst hkd
       simp only[Vw,hkk] at ho
       rw[pbeqs_eq ho]
       split at h <;>try (simp_all;done)
       rename_i s _
       split at h
       ·rename_i hl
        exact ⟨[.str s.data.toList],.leaf rfl .nil,.str hd hkk (by simpa using hl)⟩
       ·simp at h
     | slc e =>
       simp only[hkk] at hkd hk
       obtain ⟨rfl,-⟩:=hkd
       simp only[Vw,hkk] at ho
       split at ho
       ·rename_i de hde
        rw[pbeqs_eq ho]
        have hsz:=JL (hE e de hde)
        have hpos:=(hE e de hde).pos
        have hlen:=(hE e de hde).len
        split at h <;>try (simp_all;done)
        ·exact ⟨[.lst 0 []],.slE (by simp) .nil,.slc hd hkk (Nat.zero_le _) .nil⟩
        ·rename_i e1 a len cap hcs
         simp only[zS,TypeDesc.slice.injEq] at hcs
         subst hcs
         split at h
         ·rename_i hc
          obtain ⟨-,hlc,hcm⟩:=hc
          simp only[Option.bind_eq_some_iff] at h
          obtain ⟨elems,he,-⟩:=h
          obtain ⟨-,hel⟩:=Mc he
          have hat:∀ i,i<len→∃ vs y,w.cells? 0 (a.add (i * de.sz)) de.sz=some vs∧DataW.trod enc P w 0 spare true fuel e vs=some y:=by
           intro i hi
           obtain ⟨y,-,hy⟩:=hel i i (by simp[hi])
           simp only[hsz,Option.bind_eq_some_iff] at hy
           obtain ⟨vs,h1,h2⟩:=hy
           exact ⟨vs,y,h1,h2⟩
          rcases Nat.eq_zero_or_pos len with rfl | hl
          ·exact ⟨[.lst 0 []],.slE (by simp) .nil,.slc hd hkk (Nat.zero_le _) .nil⟩
          ·obtain ⟨vs0,-,hc0,-⟩:=hat 0 hl
           obtain ⟨row,ety,fr,hb,hsp,-,-⟩:=Pu hc0 hpos
           simp only[Nat.zero_mul,Addr.add,if_true] at hb hsp
           have hcell:∀ i,i<len→∃ y,DataW.trod enc P w 0 spare true fuel e (seg row (a.off+i * de.sz) de.sz)=some y∧a.off+i * de.sz+de.sz≤row.size:=by
            intro i hi
            obtain ⟨vs,y,h1,h2⟩:=hat i hi
            obtain ⟨row',ety',fr',k1,-,k3,k4⟩:=Pu h1 hpos
            have hblk:(a.add (i * de.sz)).block=a.block:=by unfold Addr.add;split <;>rfl
            have hoff:(a.add (i * de.sz)).off=a.off+i * de.sz:=by unfold Addr.add;split <;>simp_all
            rw[hblk,hb] at k1
            obtain ⟨rfl,-,-⟩:row=row'∧ety=ety'∧fr=fr' :=by simpa using k1
            rw[hoff] at k3 k4
            exact ⟨y,k3 ▸ h2,k4⟩
           have hall:∀ m,m≤len→∃ ts,R w Fz noLt 0 (rep m (shares de.own)) ts (seg row a.off (m * de.sz)) []∧WTs E e m ts:=by
            intro m
            induction m with
            | zero=>intro _;exact ⟨[],by simpa [rep,seg] using R.nil,.nil⟩
            | succ m ihm =>
              intro hm
              obtain ⟨ts,r1,w1⟩:=ihm (by omega)
              obtain ⟨y,hy,-⟩:=hcell m (by omega)
              obtain ⟨c,r2,w2⟩:=ih hde hk hy
              refine ⟨ts++c,?_,.snoc w1 w2⟩
              rw[Ic,Dh,Nat.add_mul,Nat.one_mul,ZI]
              exact r1.append r2
           obtain ⟨ts,r1,w1⟩:=hall len (Nat.le_refl _)
           obtain ⟨y,-,hsize⟩:=hcell (len - 1) (by omega)
           have hsz2:a.off+len * de.sz≤row.size:=by
            have:(len - 1) * de.sz+de.sz=len * de.sz:=by
             obtain ⟨m,rfl⟩:∃ m,len=m+1:=⟨len - 1,by omega⟩
             rw[Nat.add_sub_cancel,Nat.add_mul,Nat.one_mul]
            omega
           refine ⟨[.lst len ts],?_,.slc hd hkk (Nat.le_trans hlc hcm) w1⟩
           have hb':a.block<w.heap.size:=by
            rcases Nat.lt_or_ge a.block w.heap.size with h' | h'
            ·exact h'
            ·simp[h'] at hb
           have hsh:(shares de.own).length=de.sz:=by rw[AX,hlen]
           have:=R.slS (Fz:=Fz) (Lt:=noLt) (g:=0) (ps:=[]) (ts:=[]) (vs:=[]) (fp:=[]) (b:=a.block) (off:=a.off) (n:=len) (cap:=cap) (el:=shares de.own) (by rw[hsh];exact hpos) hb (hFz _ hb') hlc rfl (by rw[hsh];exact hsz2)
            (by rw[hsh];exact r1) .nil
           obtain ⟨ab,ao,asp⟩:=a
           simp only at hsp
           subst hsp
           exact this
         ·simp at h
       ·simp at ho
     | st fs =>
       simp only[hkk] at hkd hk
       obtain ⟨fields,rfl,hfs⟩:=hkd
       simp only[Vw,hkk] at ho
       split at h <;>try (simp_all;done)
       rename_i fs1 hcs
       simp only[zS,TypeDesc.struct.injEq] at hcs
       subst hcs
       split at h
       ·rename_i hlen
        simp only[Option.map_eq_some_iff] at h
        obtain ⟨xs,hxs,-⟩:=h
        obtain ⟨ts,r1,w1⟩:=R.fields (n:=n) (Fz:=Fz) hE (read:=fun ty vs=>DataW.trod enc P w 0 spare true fuel ty vs) (fun ty d vs x h1 h2 h3=>ih h1 h3 h2) hfs ho (by simpa using hk) hxs
        refine ⟨ts,?_,.st hd hkk w1⟩
        rw[drop_zero,(hE t d hd).len,← JL (hE t d hd),← hlen,take_length] at r1
        exact r1
       ·simp at h
     | ptr e=>simp[hkk] at hk
     | other=>simp[hkk] at hk
end
def br {α:Type} (b:Bool) (x y:Option α):Option α:=match b with
 | true=>x
 | false=>y
def gd {α:Type} (b:Bool) (x:Option α):Option α:=match b with
 | true=>x
 | false=>none
def bd {α β:Type} (o:Option α) (k:α→Option β):Option β:=match o with
 | none=>none
 | some a=>k a
theorem Bz {α:Type} {b:Bool} {x:Option α} {r:α} (h:gd b x=some r):b=true∧x=some r:=by
 cases b
 ·simp[gd] at h
 ·exact ⟨rfl,h⟩
theorem Dy {α β:Type} {o:Option α} {k:α→Option β} {r:β} (h:bd o k=some r):∃ a,o=some a∧k a=some r:=by
 cases o with
 | none=>simp[bd] at h
 | some a=>exact ⟨a,rfl,h⟩
theorem SV {α:Type} {b:Bool} {x y:Option α} {r:α} (h:br b x y=some r):(b=true∧x=some r)∨(b=false∧y=some r):=by
 cases b
 ·exact .inr ⟨rfl,h⟩
 ·exact .inl ⟨rfl,h⟩
inductive CK where
 | int (k:IntKind)
 | flt (k:FloatKind)
 | bool
 | str
 | lst
 | bad
def jl:T→CK
 | .int k _ => .int k
 | .flt k _ => .flt k
 | .bool _ => .bool
 | .str _ => .str
 | .lst _ _ => .lst
 | _ => .bad
def Ed (cs:List T) (j:Nat):Int:=match cs[j]? with
 | some (.int _ n)=>n
 | _=>0
def BR (cs:List T) (j:Nat):Nat:=match cs[j]? with
 | some (.flt _ x)=>x
 | _=>0
def KA (cs:List T) (j:Nat):Bool:=match cs[j]? with
 | some (.bool b)=>b
 | _=>false
def nO (cs:List T) (j:Nat):List UInt8:=match cs[j]? with
 | some (.str s)=>s
 | _=>[]
def GZ (cs:List T) (j:Nat):Nat:=match cs[j]? with
 | some (.lst n _)=>n
 | _=>0
def HD (cs:List T) (j:Nat):List T:=match cs[j]? with
 | some (.lst _ l)=>l
 | _=>[]
def MY (k:CK) (t:T):Bool:=match k,t with
 | .int k,.int k' _=>k==k'
 | .flt k,.flt k' _=>k==k'
 | .bool,.bool _=>true
 | .str,.str _=>true
 | .lst,.lst _ _=>true
 | _,_=>false
def AI:List CK→List T→Nat→Bool
 | [],_,_=>true
 | k::ks,cs,j=>(match cs[j]? with
   | some t=>MY k t
   | none=>false)&&AI ks cs (j+1)
def Vm (k:CK) (cs:List T) (j:Nat):T:=match k with
 | .int k => .int k (Ed cs j)
 | .flt k => .flt k (BR cs j)
 | .bool => .bool (KA cs j)
 | .str => .str (nO cs j)
 | .lst => .lst (GZ cs j) (HD cs j)
 | .bad => .nil
def Lp:List CK→List T→Nat→List T
 | [],_,_=>[]
 | k::ks,cs,j=>Vm k cs j::Lp ks cs (j+1)
theorem XI {k:CK} {cs:List T} {j:Nat} {t:T} (h:cs[j]?=some t) (hk:MY k t=true):Vm k cs j=t:=by
 cases k <;>cases t <;>simp[MY] at hk <;>simp[Vm,Ed,BR,KA,nO,GZ,HD,h,hk]
theorem Kw:∀ {ks:List CK} {cs:List T} {j:Nat},AI ks cs j=true→Ev cs j ks.length=some (Lp ks cs j)
 | [],_,_,_=>rfl
 | k::ks,cs,j,h=>by
   simp only[AI,zB] at h
   obtain ⟨h1,h2⟩:=h
   split at h1
   ·rename_i t ht
    simp only[length_cons,Ev,ht,Kw h2,Lp,XI ht h1]
   ·simp at h1
inductive Bm where
 | int (n:Int)
 | flt (x:Nat)
 | bool (b:Bool)
 | str (s:List UInt8)
 | lst (n:Nat) (cs:List T)
 | nat (n:Nat)
mutual
def ZS:T→T→List Bm→Option (List Bm)
 | .int k _,.int k' n,r=>if k=k' then some (.int n::r) else none
 | .bool _,.bool b,r=>some (.bool b::r)
 | .flt k _,.flt k' x,r=>if k=k' then some (.flt x::r) else none
 | .str _,.str s,r=>some (.str s::r)
 | .nil,.nil,r=>some r
 | .opq,.opq,r=>some r
 | .lst _ _,.lst n cs,r=>some (.lst n cs::r)
 | .ref ps,.ref cs,r=>mtTs ps cs r
 | .fn f ps,.fn f' cs,r=>if f=f' then mtTs ps cs r else none
 | _,_,_=>none
def mtTs:List T→List T→List Bm→Option (List Bm)
 | [],[],r=>some r
 | p::ps,t::ts,r=>match mtTs ps ts r with
   | none=>none
   | some r=>ZS p t r
 | _,_,_=>none
end
mutual
def kl:T→List Bm→Option (T × List Bm)
 | .int k _,.int n::r=>some (.int k n,r)
 | .bool _,.bool b::r=>some (.bool b,r)
 | .flt k _,.flt x::r=>some (.flt k x,r)
 | .str _,.str s::r=>some (.str s,r)
 | .nil,r=>some (.nil,r)
 | .opq,r=>some (.opq,r)
 | .lst _ _,.lst n cs::r=>some (.lst n cs,r)
 | .ref ps,r=>match flTs ps r with
   | none=>none
   | some (cs,r)=>some (.ref cs,r)
 | .fn f ps,r=>match flTs ps r with
   | none=>none
   | some (cs,r)=>some (.fn f cs,r)
 | _,_=>none
def flTs:List T→List Bm→Option (List T × List Bm)
 | [],r=>some ([],r)
 | p::ps,r=>match kl p r with
   | none=>none
   | some (t,r)=>match flTs ps r with
     | none=>none
     | some (ts,r)=>some (t::ts,r)
end
mutual
theorem ed:∀ {p t:T} {r ls:List Bm},ZS p t r=some ls→kl p ls=some (t,r)
 | .int k _,t,r,ls,h=>by cases t <;>simp[ZS] at h;obtain ⟨rfl,rfl⟩:=h;rfl
 | .bool _,t,r,ls,h=>by cases t <;>simp[ZS] at h;subst h;rfl
 | .flt k _,t,r,ls,h=>by cases t <;>simp[ZS] at h;obtain ⟨rfl,rfl⟩:=h;rfl
 | .str _,t,r,ls,h=>by cases t <;>simp[ZS] at h;subst h;rfl
 | .nil,t,r,ls,h=>by cases t <;>simp[ZS] at h;subst h;rfl
 | .opq,t,r,ls,h=>by cases t <;>simp[ZS] at h;subst h;rfl
 | .lst _ _,t,r,ls,h=>by cases t <;>simp[ZS] at h;subst h;rfl
 | .ref ps,t,r,ls,h=>by
   cases t <;>simp only[ZS] at h <;>try (simp at h;done)
   simp only[kl,mtTs_fl h]
 | .fn f ps,t,r,ls,h=>by
   cases t <;>simp only[ZS] at h <;>try (simp at h;done)
   split at h
   ·rename_i e;subst e
    simp only[kl,mtTs_fl h]
   ·simp at h
theorem mtTs_fl:∀ {ps ts:List T} {r ls:List Bm},mtTs ps ts r=some ls→flTs ps ls=some (ts,r)
 | [],ts,r,ls,h=>by cases ts <;>simp[mtTs] at h;subst h;rfl
 | p::ps,ts,r,ls,h=>by
   cases ts with
   | nil=>simp[mtTs] at h
   | cons t ts =>
     simp only[mtTs] at h
     split at h
     ·simp at h
     ·rename_i r' h'
      simp only[flTs,ed h,mtTs_fl h']
end
def Mb:List (Nat × Nat)→List (Nat × Nat)→Bool
 | [],[]=>true
 | a::as,b::bs=>Nat.beq a.1 b.1&&Nat.beq a.2 b.2&&Mb as bs
 | _,_=>false
theorem RV:∀ {a b:List (Nat × Nat)},Mb a b=true→a=b
 | [],[],_=>rfl
 | [],_::_,h=>by simp[Mb] at h
 | _::_,[],h=>by simp[Mb] at h
 | a::as,b::bs,h=>by
   simp only[Mb,zB,Nat.beq_eq] at h
   obtain ⟨⟨h1,h2⟩,h3⟩:=h
   rw[RV h3,show a=b from Prod.ext h1 h2]
def Sj:Ek→Ek→Bool
 | [],[]=>true
 | _,_=>false
def aS (p q:Aj) (r:List Bm):Option (List Bm) :=
 match p.path,q.path with
 | [],[]=>if Nat.beq p.e q.e&&Nat.beq p.c q.c&&Nat.beq p.n q.n&&p.agg==q.agg then some r else none
 | [x],[y]=>if Nat.beq x.1 y.1&&Nat.beq x.2 y.2&&Nat.beq p.c q.c&&Nat.beq p.n q.n&&p.agg==q.agg then some (.nat q.e::r) else none
 | _,_=>none
def bR (p:Aj) (r:List Bm):Option (Aj × List Bm) :=
 match p.path,r with
 | [],r=>some (p,r)
 | [x],.nat e::r=>some (⟨[x],e,p.c,p.n,p.agg⟩,r)
 | _,_=>none
theorem SC {p q:Aj} {r ls:List Bm} (h:aS p q r=some ls):bR p ls=some (q,r):=by
 obtain ⟨pp,pe,pc,pn,pa⟩:=p
 obtain ⟨qp,qe,qc,qn,qa⟩:=q
 unfold aS at h
 simp only at h
 split at h
 ·split at h
  ·rename_i hc
   simp only[zB,Nat.beq_eq,beq_iff_eq] at hc
   obtain ⟨⟨⟨rfl,rfl⟩,rfl⟩,rfl⟩:=hc
   simp only[zS] at h
   subst h;rfl
  ·simp at h
 ·rename_i x y
  split at h
  ·rename_i hc
   simp only[zB,Nat.beq_eq,beq_iff_eq] at hc
   obtain ⟨⟨⟨⟨h1,h2⟩,rfl⟩,rfl⟩,rfl⟩:=hc
   obtain rfl:x=y:=Prod.ext h1 h2
   simp only[zS] at h
   subst h;rfl
  ·simp at h
 ·simp at h
def LE:List (Nat × Aj)→List (Nat × Aj)→List Bm→Option (List Bm)
 | [],[],r=>some r
 | p::ps,q::qs,r=>match LE ps qs r with
   | none=>none
   | some r=>if Nat.beq p.1 q.1 then aS p.2 q.2 r else none
 | _,_,_=>none
def Si:List (Nat × Aj)→List Bm→Option (List (Nat × Aj) × List Bm)
 | [],r=>some ([],r)
 | p::ps,r=>match bR p.2 r with
   | none=>none
   | some (q,r)=>match Si ps r with
     | none=>none
     | some (qs,r)=>some ((p.1,q)::qs,r)
theorem RJ:∀ {ps qs:List (Nat × Aj)} {r ls:List Bm},LE ps qs r=some ls→Si ps ls=some (qs,r)
 | [],[],r,ls,h=>by simp[LE] at h;subst h;rfl
 | [],_::_,_,_,h=>by simp[LE] at h
 | _::_,[],_,_,h=>by simp[LE] at h
 | p::ps,q::qs,r,ls,h=>by
   simp only[LE] at h
   split at h
   ·simp at h
   ·rename_i r' h'
    split at h
    ·rename_i e
     have e:p.1=q.1:=by simpa using e
     simp only[Si,SC h,RJ h',e]
    ·simp at h
def mO:AA→AA→List Bm→Option (List Bm)
 | .dead,.dead,r=>some r
 | .und,.und,r=>some r
 | .gone,.gone,r=>some r
 | .val a p cs d pin,.val a' p' cs' d' pin',r=>if a==a'&&pbeqs p p'&&Sj d d'&&Nat.beq pin pin' then mtTs cs cs' r else none
 | .box p cs d pin,.box p' cs' d' pin',r=>if pbeqs p p'&&Sj d d'&&Nat.beq pin pin' then mtTs cs cs' r else none
 | .view k pl,.view k' pl',r=>if Nat.beq k k' then aS pl pl' r else none
 | .ptr k pl,.ptr k' pl',r=>if Nat.beq k k' then aS pl pl' r else none
 | .clo f caps,.clo f' caps',r=>if Nat.beq f f' then LE caps caps' r else none
 | _,_,_=>none
def eQ:AA→List Bm→Option (AA × List Bm)
 | .dead,r=>some (.dead,r)
 | .und,r=>some (.und,r)
 | .gone,r=>some (.gone,r)
 | .val a p cs _ pin,r=>match flTs cs r with
   | none=>none
   | some (cs,r)=>some (.val a p cs [] pin,r)
 | .box p cs _ pin,r=>match flTs cs r with
   | none=>none
   | some (cs,r)=>some (.box p cs [] pin,r)
 | .view k pl,r=>match bR pl r with
   | none=>none
   | some (pl,r)=>some (.view k pl,r)
 | .ptr k pl,r=>match bR pl r with
   | none=>none
   | some (pl,r)=>some (.ptr k pl,r)
 | .clo f caps,r=>match Si caps r with
   | none=>none
   | some (caps,r)=>some (.clo f caps,r)
 | _,_=>none
theorem eJ {p s:AA} {r ls:List Bm} (h:mO p s r=some ls):eQ p ls=some (s,r):=by
 unfold mO at h
 split at h
 ·simp only[zS] at h;subst h;rfl
 ·simp only[zS] at h;subst h;rfl
 ·simp only[zS] at h;subst h;rfl
 ·rename_i a p cs d pin a' p' cs' d' pin'
  split at h
  ·rename_i hc
   simp only[zB,Nat.beq_eq,beq_iff_eq] at hc
   obtain ⟨⟨⟨rfl,h2⟩,h3⟩,rfl⟩:=hc
   obtain rfl:=pbeqs_eq h2
   have:d=[]∧d'=[]:=by cases d <;>cases d' <;>simp[Sj] at h3;exact ⟨rfl,rfl⟩
   obtain ⟨rfl,rfl⟩:=this
   simp only[eQ,mtTs_fl h]
  ·simp at h
 ·rename_i p cs d pin p' cs' d' pin'
  split at h
  ·rename_i hc
   simp only[zB,Nat.beq_eq] at hc
   obtain ⟨⟨h2,h3⟩,rfl⟩:=hc
   obtain rfl:=pbeqs_eq h2
   have:d=[]∧d'=[]:=by cases d <;>cases d' <;>simp[Sj] at h3;exact ⟨rfl,rfl⟩
   obtain ⟨rfl,rfl⟩:=this
   simp only[eQ,mtTs_fl h]
  ·simp at h
 ·split at h
  ·rename_i hc
   simp only[Nat.beq_eq] at hc
   subst hc
   simp only[eQ,SC h]
  ·simp at h
 ·split at h
  ·rename_i hc
   simp only[Nat.beq_eq] at hc
   subst hc
   simp only[eQ,SC h]
  ·simp at h
 ·split at h
  ·rename_i hc
   simp only[Nat.beq_eq] at hc
   subst hc
   simp only[eQ,RJ h]
  ·simp at h
 ·simp at h
def PQ:List (Nat × AA)→List (Nat × AA)→List Bm→Option (List Bm)
 | [],[],r=>some r
 | p::ps,q::qs,r=>match PQ ps qs r with
   | none=>none
   | some r=>if Nat.beq p.1 q.1 then mO p.2 q.2 r else none
 | _,_,_=>none
def W9:List (Nat × AA)→List Bm→Option (List (Nat × AA) × List Bm)
 | [],r=>some ([],r)
 | p::ps,r=>match eQ p.2 r with
   | none=>none
   | some (q,r)=>match W9 ps r with
     | none=>none
     | some (qs,r)=>some ((p.1,q)::qs,r)
theorem TX:∀ {ps qs:List (Nat × AA)} {r ls:List Bm},PQ ps qs r=some ls→W9 ps ls=some (qs,r)
 | [],[],r,ls,h=>by simp[PQ] at h;subst h;rfl
 | [],_::_,_,_,h=>by simp[PQ] at h
 | _::_,[],_,_,h=>by simp[PQ] at h
 | p::ps,q::qs,r,ls,h=>by
   simp only[PQ] at h
   split at h
   ·simp at h
   ·rename_i r' h'
    split at h
    ·rename_i e
     have e:p.1=q.1:=by simpa using e
     simp only[W9,eJ h,TX h',e]
    ·simp at h
def QK (p σ:AS):Option (List Bm):=if Nat.beq p.g σ.g then PQ p.env σ.env [] else none
def Yl (p:AS) (ls:List Bm):AS:=match W9 p.env ls with
 | some (env,_)=>⟨env,p.g⟩
 | none=>p
theorem SS {p σ:AS} {ls:List Bm} (h:QK p σ=some ls):Yl p ls=σ:=by
 unfold QK at h
 split at h
 ·rename_i e
  have e:p.g=σ.g:=by simpa using e
  unfold Yl
  rw[TX h,e]
 ·simp at h
def jm (p v:V) (r:List Bm):Option (List Bm):=if p.agg==v.agg&&pbeqs p.p v.p then mtTs p.cs v.cs r else none
def jE (p:V) (r:List Bm):Option (V × List Bm):=match flTs p.cs r with
 | none=>none
 | some (cs,r)=>some (⟨p.agg,p.p,cs⟩,r)
theorem WH {p v:V} {r ls:List Bm} (h:jm p v r=some ls):jE p ls=some (v,r):=by
 unfold jm at h
 split at h
 ·rename_i hc
  simp only[zB,beq_iff_eq] at hc
  obtain ⟨h1,h2⟩:=hc
  unfold jE
  rw[mtTs_fl h]
  obtain ⟨a,b,c⟩:=p
  obtain ⟨a',b',c'⟩:=v
  simp only at h1 h2
  subst h1
  obtain rfl:=pbeqs_eq h2
  rfl
 ·simp at h
def IM:List Ae→List Ae→List Bm→Option (List Bm)
 | [],[],r=>some r
 | p::ps,q::qs,r=>match IM ps qs r with
   | none=>none
   | some r=>if p.m.beq q.m then jm p.v q.v r else none
 | _,_,_=>none
def Ry:List Ae→List Bm→Option (List Ae × List Bm)
 | [],r=>some ([],r)
 | p::ps,r=>match jE p.v r with
   | none=>none
   | some (v,r)=>match Ry ps r with
     | none=>none
     | some (qs,r)=>some (⟨p.m,v⟩::qs,r)
theorem DG.beq_eq {a b:DG} (h:a.beq b=true):a=b:=by cases a <;>cases b <;>simp[DG.beq] at h <;>rfl
theorem Qw:∀ {ps qs:List Ae} {r ls:List Bm},IM ps qs r=some ls→Ry ps ls=some (qs,r)
 | [],[],r,ls,h=>by simp[IM] at h;subst h;rfl
 | [],_::_,_,_,h=>by simp[IM] at h
 | _::_,[],_,_,h=>by simp[IM] at h
 | p::ps,q::qs,r,ls,h=>by
   simp only[IM] at h
   split at h
   ·simp at h
   ·rename_i r' h'
    split at h
    ·rename_i e
     have e:=DG.beq_eq e
     simp only[Ry,WH h,Qw h',e]
    ·simp at h
def Hk (p:List Ae) (ls:List Bm):List Ae:=match Ry p ls with
 | some (as,_)=>as
 | none=>p
theorem ci {p as:List Ae} {ls:List Bm} (h:IM p as []=some ls):Hk p ls=as:=by
 unfold Hk;rw[Qw h]
def WV:List V→List V→List Bm→Option (List Bm)
 | [],[],r=>some r
 | p::ps,q::qs,r=>match WV ps qs r with
   | none=>none
   | some r=>jm p q r
 | _,_,_=>none
def cC:List V→List Bm→Option (List V × List Bm)
 | [],r=>some ([],r)
 | p::ps,r=>match jE p r with
   | none=>none
   | some (v,r)=>match cC ps r with
     | none=>none
     | some (vs,r)=>some (v::vs,r)
theorem Wp:∀ {ps qs:List V} {r ls:List Bm},WV ps qs r=some ls→cC ps ls=some (qs,r)
 | [],[],r,ls,h=>by simp[WV] at h;subst h;rfl
 | [],_::_,_,_,h=>by simp[WV] at h
 | _::_,[],_,_,h=>by simp[WV] at h
 | p::ps,q::qs,r,ls,h=>by
   simp only[WV] at h
   split at h
   ·simp at h
   ·rename_i r' h'
    simp only[cC,WH h,Wp h']
def Nt:List (Option V)→List (Option V)→List Bm→Option (List Bm)
 | [],[],r=>some r
 | none::ps,none::qs,r=>Nt ps qs r
 | some p::ps,some q::qs,r=>match Nt ps qs r with
   | none=>none
   | some r=>jm p q r
 | _,_,_=>none
def Xr:List (Option V)→List Bm→Option (List (Option V) × List Bm)
 | [],r=>some ([],r)
 | none::ps,r=>match Xr ps r with
   | none=>none
   | some (vs,r)=>some (none::vs,r)
 | some p::ps,r=>match jE p r with
   | none=>none
   | some (v,r)=>match Xr ps r with
     | none=>none
     | some (vs,r)=>some (some v::vs,r)
theorem R0:∀ {ps qs:List (Option V)} {r ls:List Bm},Nt ps qs r=some ls→Xr ps ls=some (qs,r)
 | [],[],r,ls,h=>by simp[Nt] at h;subst h;rfl
 | [],_::_,_,_,h=>by simp[Nt] at h
 | none::_,[],_,_,h=>by simp[Nt] at h
 | some _::_,[],_,_,h=>by simp[Nt] at h
 | none::_,some _::_,_,_,h=>by simp[Nt] at h
 | some _::_,none::_,_,_,h=>by simp[Nt] at h
 | none::ps,none::qs,r,ls,h=>by
   simp only[Nt] at h
   simp only[Xr,R0 h]
 | some p::ps,some q::qs,r,ls,h=>by
   simp only[Nt] at h
   split at h
   ·simp at h
   ·rename_i r' h'
    simp only[Xr,WH h,R0 h']
def mf (p v:Ec):Option (List Bm):=match Nt p.outs v.outs [] with
 | none=>none
 | some r=>WV p.rs v.rs r
def km (p:Ec) (ls:List Bm):Ec:=match cC p.rs ls with
 | none=>p
 | some (rs,r)=>match Xr p.outs r with
   | none=>p
   | some (os,_)=>⟨rs,os⟩
theorem dl {p v:Ec} {ls:List Bm} (h:mf p v=some ls):km p ls=v:=by
 unfold mf at h
 split at h
 ·simp at h
 ·rename_i r hr
  unfold km
  rw[Wp h]
  simp only[R0 hr]
end Go.Desk
end
section
namespace Go.Desk
open Go Go.ChangeShapes Go.RowKit
inductive Ew (E:A4):List Nat→List Ae→Prop
 | nil:Ew E [] []
 | cons {t tys d ts as} (hd:E.ty t=some d) (hw:WT E t ts) (r:Ew E tys as):Ew E (t::tys) (⟨.val,⟨d.agg,shares d.own,ts⟩⟩::as)
section
variable {P:Program} {E:A4} {w:World} {H:Type} {enc:TypeId × Value→H}
theorem SO {t:Nat} {d:TD} (hT:KF P E t d) {n:Nat} (hp:Df E n t=true) (hd:E.ty t=some d) {r:Reach} {base:Nat} {v:Value} (h:Value.okWide P w r base t v):AE d.agg v v.cells.toList:=by
 cases n with
 | zero=>simp[Df] at hp
 | succ n =>
   simp only[Df,hd,zB] at hp
   obtain ⟨-,hk⟩:=hp
   obtain ⟨u,hu,hkd,hag⟩:=hT.und
   unfold Iv at hkd
   cases hkk:d.kd with
   | int k =>
     simp only[hkk] at hkd
     subst hkd
     simp only[Value.okWide,hu,Cell.okWide] at h
     rw[← hag]
     cases v <;>simp_all [Cell.ok,GU,AE,Value.cells]
   | flt k =>
     simp only[hkk] at hkd
     subst hkd
     simp only[Value.okWide,hu,Cell.okWide] at h
     rw[← hag]
     cases v <;>simp_all [Cell.ok,GU,AE,Value.cells]
   | bool =>
     simp only[hkk] at hkd
     subst hkd
     simp only[Value.okWide,hu,Cell.okWide] at h
     rw[← hag]
     cases v <;>simp_all [Cell.ok,GU,AE,Value.cells]
   | str =>
     simp only[hkk] at hkd
     subst hkd
     simp only[Value.okWide,hu,Cell.okWide] at h
     rw[← hag]
     cases v <;>simp_all [Cell.ok,GU,AE,Value.cells]
   | slc e =>
     simp only[hkk] at hkd
     obtain ⟨rfl,-⟩:=hkd
     simp only[Value.okWide,hu,Cell.okWide] at h
     rw[← hag]
     cases v <;>simp_all [Cell.ok,GU,AE,Value.cells]
   | st fs =>
     simp only[hkk] at hkd
     obtain ⟨fields,rfl,-⟩:=hkd
     simp only[Value.okWide,hu] at h
     obtain ⟨cs,rfl,-⟩:=h
     rw[← hag]
     simp[GU,AE,Value.cells]
   | ptr e=>simp[hkk] at hk
   | other=>simp[hkk] at hk
theorem T6 (hE:DO P E) {N:Nat} {r:Reach} {base:Nat}:∀ {tys:List Nat} {args:List Value} {ds:List (DataW H)} {p:List MemPlace},DataW.TrodAll enc P w 0 (fun _=>true) true tys args ds p→(tys.all fun t=>Df E N t)=true →
  (∀ (j:Nat) t v,tys[j]?=some t→args[j]?=some v→Value.okWide P w r base t v)→∃ as,Ew E tys as∧Eh w (fun b=>b<w.heap.size) as args []
 | [],args,ds,p,h,_,_=>by
   cases args <;>cases ds <;>simp[DataW.TrodAll] at h
   exact ⟨[],.nil,.nil⟩
 | t::tys,args,ds,p,h,hp,hv=>by
   obtain ⟨v,vs,d,ds',p1,q1,rfl,rfl,rfl,h1,h2⟩:=trodAll_cons h
   simp only[all_cons,zB] at hp
   obtain ⟨as,a1,a2⟩:=T6 hE h2 hp.2 (fun j t v h3 h4=>hv (j+1) t v (by simpa using h3) (by simpa using h4))
   have hp1:=hp.1
   obtain ⟨td,htd⟩:∃ td,E.ty t=some td:=by
    cases N with
    | zero=>simp[Df] at hp1
    | succ n =>
      simp only[Df] at hp1
      cases ht:E.ty t with
      | none=>simp[ht] at hp1
      | some td=>exact ⟨td,rfl⟩
   obtain ⟨fuel,hf⟩:=h1
   obtain ⟨ts,hR,hW⟩:=eF (Fz:=fun b=>b<w.heap.size) hE (fun _ h=>h) htd hp1 hf
   exact ⟨_,.cons htd hW a1,.val (v:=⟨td.agg,shares td.own,ts⟩) (SO (hE t td htd) hp1 htd (hv 0 t v rfl rfl)) hR a2⟩
theorem Kl (hl:laidOutB P=true) {W W':World} (bel:Below W.heap.size W W'):∀ {tys:List Nat} {args:List Value} {ds:List (DataW H)} {p:List MemPlace},(tys.all fun t=>P.readableRec t&&decide (t<P.types.size))=true →
  DataW.TrodAll enc P W 0 (fun _=>true) true tys args ds p→DataW.TrodAll enc P W' 0 (fun b=>decide (b<W.heap.size)) true tys args ds p
 | [],args,ds,p,_,h=>by
   cases args <;>cases ds <;>simp[DataW.TrodAll] at h ⊢
   exact h
 | t::tys,args,ds,p,hr,h=>by
   obtain ⟨v,vs,d,ds',p1,q1,rfl,rfl,rfl,h1,h2⟩:=trodAll_cons h
   simp only[all_cons,zB,decide_eq_true_eq] at hr
   have lt:∀ x∈p1,x.block<W.heap.size:=by
    obtain ⟨m,hm⟩:=h1
    exact DataW.trod_lt m _ _ _ hm
   exact trodAll_cons_mk (Below.trod hl hr.1.1 hr.1.2 h1 bel lt) (Kl hl bel hr.2 h2)
theorem Nc {b:Nat} {sp:Nat→Bool} {hd:Bool}:∀ {tys:List Nat} {args:List Value} {ds:List (DataW H)} {p:List MemPlace},DataW.TrodAll enc P w b sp hd tys args ds p→ds.length=tys.length
 | [],args,ds,p,h=>by
   cases args <;>cases ds <;>simp[DataW.TrodAll] at h
   rfl
 | t::tys,args,ds,p,h=>by
   obtain ⟨v,vs,d,ds',p1,q1,rfl,rfl,rfl,h1,h2⟩:=trodAll_cons h
   simp[Nc h2]
theorem law_contract {f:Nat} {fn:Func} {s:ChangeSpec} {tb:Nat} {c:Code} (hm:P.follows .mixedOrders=true) (hE:DO P E) (hT:∀ f fd,E.fn f=some fd→Cm P E f fd)
  (hf : P.funcs[f]? = some fn) (hname : (fn.name == "runtime.NumGoroutine") = false) (hb : fn.body = some c) (hres : fn.resultTypes = #[tb]) (htb : P.underlying tb = some .bool) (hvars : s.vars = [])
  (hspec:∀ ds:List (DataW H),ds.length=fn.params.toList.length→s.fn H ds = { results:=[.lit (.bool true)],args:=ds }) (hl:laidOutB P=true) {N:Nat} (hp:(fn.params.toList.all fun t=>Df E N t)=true)
  (hr:(fn.params.toList.all fun t=>P.readableRec t&&decide (t<P.types.size))=true)
  (law:∀ as,Ew E fn.params.toList as→∃ N os,Ak E N f as=some ⟨[⟨false,[.leaf],[.bool true]⟩],os⟩)
  {W:World} {base:Nat} {args:Array Value} {ds gs:List (DataW H)} {before:List MemPlace} (hval:∀ (j:Nat) t v,fn.params[j]?=some t→args[j]?=some v→Value.okWide P W .any base t v)
  (hW:DataW.Whole enc P fn.params.toList s.vars false W args.toList ds gs before) :
  Calls P f args W fun e W'=>∃ v,e = .returned v∧s.post enc P fn false true false false W args v W' :=by
 have hW' :=hW
 obtain ⟨p,q,hA,hV,rfl,hfz,hnd⟩:=hW
 rw[hvars] at hV
 obtain ⟨rfl,rfl⟩:=trodVars_none hV
 obtain ⟨as,hlaw,hargs⟩:=T6 (r:=.any) (base:=base) hE hA hp (fun j t v h1 h2=>hval j t v (by simpa using h1) (by simpa using h2))
 obtain ⟨n,os,hev⟩:=law as hlaw
 have hok:=J4 hm hE hT n f as _ hev W (fun b=>b<W.heap.size) args.toList [] hargs (by simp) (fun _ h=>h)
 have hrun:(callFunc f args.toList.toArray).run P W = .ok (.enter f args.toList.toArray) W:=by
  have h1 : fn.name ≠ "runtime.NumGoroutine" := by simpa using hname
  simp[callFunc,hf,h1,hb]
 rcases hok with ⟨v,w',h1,-⟩ | ⟨-,hc⟩
 ·rw[hrun] at h1;simp at h1
 ·have ea:args.toList.toArray=args:=by simp
  rw[ea] at hc
  refine hc.mono fun e w' he => ?_
  cases e with
  | returned v =>
    obtain ⟨hx,Lt,g,fr,fo,hR,hO,-⟩:=he
    refine ⟨v,rfl,?_⟩
    obtain ⟨xs,hRs,hxs⟩:=hR
    simp only at hxs
    subst hxs
    cases hRs with
    | cons hcells hR1 hr1 =>
      have:=BI hcells
      subst this
      cases hR1 with
      | leaf hl1 _ =>
        simp only[AQ] at hl1
        subst hl1
        have bel:Below W.heap.size W w' :=hx.below (by simp[Mut]) (Nat.le_refl _)
        rw[hvars] at hW'
        have hlen:=Nc hA
        have hs:=hspec ds hlen
        refine ⟨ds,[],p++[],[],p,[],by rw[hvars];exact hW',?_,?_,?_,bel.frame _,fun h=>by cases h⟩
        ·rw[append_nil,hs,hres]
         exact trodAll_mk1 (shut_bool htb true)
        ·rw[append_nil,hs]
         exact Kl hl bel hr hA
        ·rw[hvars,append_nil,hs];rfl
  | panicked chain=>exact he.elim
  | outgrown=>exact he.elim
end
def bC:T→T→Bool
 | .int k n,.int k' n'=>k==k'&&n==n'
 | .bool b,.bool b'=>b==b'
 | .flt k x,.flt k' x'=>k==k'&&x==x'
 | .str [],.str []=>true
 | .nil,.nil=>true
 | .lst 0 [],.lst 0 []=>true
 | _,_=>false
theorem aV {a b:T} (h:bC a b=true):a=b:=by
 unfold bC at h
 split at h <;>simp_all
def M9:List T→List T→Bool
 | [],[]=>true
 | a::as,b::bs=>bC a b&&M9 as bs
 | _,_=>false
theorem RK:∀ {a b:List T},M9 a b=true→a=b
 | [],[],_=>rfl
 | [],_::_,h=>by simp[M9] at h
 | _::_,[],h=>by simp[M9] at h
 | a::as,b::bs,h=>by
   simp only[M9,zB] at h
   rw[aV h.1,RK h.2]
def lB (E:A4) (d:TD) (u:TypeDesc):Bool:=match d.kd,u with
 | .int k,.int k'=>k==k'
 | .flt k,.float k'=>k==k'
 | .bool,.bool=>true
 | .str,.string=>true
 | .slc e,.slice e'=>Nat.beq e e'&&match E.ty e with
   | some de=>pbeqs d.own [.sl .own de.own]
   | none=>false
 | .ptr e,.pointer e'=>Nat.beq e e'
 | .st fs,.struct fields=>Mb (fields.toList.map fun f=>(f.offset,f.type)) fs
 | .other,_=>true
 | _,_=>false
theorem ep {E:A4} {d:TD} {u:TypeDesc} (h:lB E d u=true):Iv E d u:=by
 unfold lB at h
 unfold Iv
 split at h
 ·rename_i hk;simp only[hk];simp_all
 ·rename_i hk;simp only[hk];simp_all
 ·rename_i hk;simp only[hk]
 ·rename_i hk;simp only[hk]
 ·rename_i e e' hk
  simp only[hk]
  simp only[zB,Nat.beq_eq] at h
  obtain ⟨rfl,h⟩:=h
  refine ⟨rfl,?_⟩
  split at h
  ·rename_i de hde
   exact ⟨de,hde,pbeqs_eq h⟩
  ·simp at h
 ·rename_i e e' hk;simp only[hk];simp_all
 ·rename_i fs fields hk
  simp only[hk]
  exact ⟨fields,rfl,RV h⟩
 ·rename_i hk;simp only[hk]
 ·simp at h
def mo (P:Program) (E:A4) (t:Nat) (d:TD):Bool :=
 (match P.info? t with
 | some i=>Nat.beq i.size d.sz&&Nat.beq i.bytes d.bytes&&(match i.zero with
   | some z=>(match Er z.cells.toList with
     | some ts=>M9 ts d.zero
     | none=>false)&&(match d.agg,z with
       | true,.agg _=>true
       | false,z=>z.oneCell'
       | _,_=>false)
   | none=>false)
 | none=>false)&&Io d.own d.zero&&Nat.beq d.own.length d.sz&&Nat.blt 0 d.sz&&(match P.underlying t with
 | some u=>lB E d u&&(GU u==d.agg)&&(match u with
   | .struct fields=>fields.toList.all fun f=>(P.info? f.type).isSome
   | _=>true)
 | none=>false)
theorem d8 {P:Program} {E:A4} {t:Nat} {d:TD} (h:mo P E t d=true):KF P E t d:=by
 unfold mo at h
 simp only[zB,Nat.beq_eq] at h
 obtain ⟨⟨⟨⟨h1,h2⟩,h3⟩,h4⟩,h5⟩:=h
 refine ⟨?_,h2,h3,by simpa using h4,?_,?_⟩
 ·split at h1
  ·rename_i i hi
   simp only[zB,Nat.beq_eq] at h1
   obtain ⟨⟨a1,a2⟩,a3⟩:=h1
   split at a3
   ·rename_i z hz
    simp only[zB] at a3
    obtain ⟨b1,b2⟩:=a3
    split at b1
    ·rename_i ts hts
     refine ⟨i,z,hi,a1,a2,hz,by rw[hts,RK b1],?_⟩
     split at b2
     ·rename_i cs hag;rw[hag];exact ⟨cs,rfl⟩
     ·rename_i z' hag;rw[hag];exact RZ b2
     ·simp at b2
    ·simp at b1
   ·simp at a3
  ·simp at h1
 ·split at h5
  ·rename_i u hu
   simp only[zB,beq_iff_eq] at h5
   exact ⟨u,hu,ep h5.1.1,h5.1.2⟩
  ·simp at h5
 ·intro fields hu f hf
  rw[hu] at h5
  simp only[zB,all_eq_true] at h5
  exact h5.2 f hf
def NJ:List (Nat × TD)→Nat→Option TD
 | [],_=>none
 | (i,d)::r,t=>match Nat.beq i t with
   | true=>some d
   | false=>NJ r t
def H7:List (Nat × FD)→Nat→Option FD
 | [],_=>none
 | (i,d)::r,t=>match Nat.beq i t with
   | true=>some d
   | false=>H7 r t
theorem Xh {l:List (Nat × TD)} {t:Nat} {d:TD} (h:NJ l t=some d):(t,d)∈l:=by
 induction l with
 | nil=>simp[NJ] at h
 | cons x l ih =>
   obtain ⟨i,d'⟩:=x
   simp only[NJ] at h
   split at h
   ·rename_i e
    have e:i=t:=by simpa using e
    simp only[zS] at h
    subst e h;simp
   ·exact mem_cons_of_mem _ (ih h)
theorem Pq {P:Program} {E:A4} {l:List (Nat × TD)} (hE:∀ t,E.ty t=NJ l t) (h:(l.all fun x=>mo P E x.1 x.2)=true):DO P E:=by
 intro t d ht
 rw[hE] at ht
 rw[all_eq_true] at h
 exact d8 (h _ (Xh ht))
inductive Ks (P:Program) (E:A4):List (Nat × FD)→Prop
 | nil:Ks P E []
 | cons {f fd l} (h:Cm P E f fd) (t:Ks P E l):Ks P E ((f,fd)::l)
theorem PU {P:Program} {E:A4} {l:List (Nat × FD)} (hE:∀ f,E.fn f=H7 l f) (h:Ks P E l):∀ f fd,E.fn f=some fd→Cm P E f fd:=by
 intro f fd hf
 rw[hE] at hf
 clear hE
 induction h with
 | nil=>simp[H7] at hf
 | cons h t ih =>
   simp only[H7] at hf
   split at hf
   ·rename_i e
    have e:=Nat.beq_eq.mp e
    simp only[zS] at hf
    subst e hf;exact h
   ·exact ih hf
theorem LC {P : Program} {E : A4} {f : Nat} {fn : Func} {c : Code} {modes : List DG} {outs : List Nat} {results : List (Nat × Option (Bool × Nat))} {keep : List (Nat × List Nat)} (hf : P.funcs[f]? = some fn) (hn : (fn.name == "runtime.NumGoroutine") = false) (hb : fn.body = some c)
  (h:Wl E fn c modes outs results=true):Cm P E f (.code c modes outs results keep):=⟨fn,hf,hn,hb,h⟩
def K3:List Pm→List T→List (Nat × Nat)→Option (Bool × List Pm × List T)
 | ps,cs,[]=>some (true,ps,cs)
 | ps,cs,(e,c)::path=>match ps[c]? with
   | some (.sl .own el)=>match K3 el (HD cs (ix ps.length e c)) path with
     | none=>none
     | some (g,r)=>some (g&&AI [.lst] cs (ix ps.length e c),r)
   | _=>none
def Gv (ps:List Pm) (cs:List T):List (Nat × Nat)→Option (Bool × List Pm × List T)
 | []=>some (true,ps,cs)
 | (e,c)::path=>match ps[c]? with
   | some (.sl .own el)=>match cs[ix ps.length e c]? with
     | some (.lst _ cs')=>K3 el cs' path
     | _=>none
   | _=>none
def Fq (ks:List CK) (ps:List Pm) (cs:List T) (pl:Aj):Option (Bool × V) :=
 match pl.path with
 | []=>match atPlace ps cs pl with
   | none=>none
   | some v=>some (true,v)
 | path=>match Gv ps cs path with
   | none=>none
   | some (g,el,rcs)=>match Nat.beq ks.length pl.n with
     | false=>none
     | true=>match DP el pl.c pl.n with
       | none=>none
       | some p=>some (g&&AI ks rcs (ix el.length pl.e pl.c),⟨pl.agg,p,Lp ks rcs (ix el.length pl.e pl.c)⟩)
def J8 (E:A4) (t:Nat):Option (List CK):=match E.ty t with
 | none=>none
 | some d=>some (d.zero.map jl)
def eU (E:A4) (ty:Nat) (r:Ro):Option (Bool × Option V) :=
 match r with
 | .slot _ (.view _ pl) root=>match root.root with
   | none=>some (true,none)
   | some (p,cs,d)=>match FG d pl with
     | true=>some (true,none)
     | false=>match J8 E ty with
       | none=>none
       | some ks=>match Fq ks p cs pl with
         | none=>none
         | some (g,v)=>some (g,some v)
 | r=>some (true,Ax E ty r)
def dM {β:Type} (E:A4) (ty:Nat) (r:Ro) (k:V→Option β):Option β:=match eU E ty r with
 | some (g,some v)=>gd g (k v)
 | _=>none
def F8 {β:Type} (E:A4) (ty:Nat) (r:Ro) (k:T→Option β):Option β:=dM E ty r fun v=>match v with
 | ⟨false,[.leaf],[t]⟩=>k t
 | _=>none
def Au (k:FloatKind) (x y:Nat):Nat:=match k.format.add x y with
 | some b=>b
 | none=>D6 k
def BW (k:FloatKind) (x y:Nat):Nat:=match k.format.sub x y with
 | some b=>b
 | none=>D6 k
def AM (k:FloatKind) (x y:Nat):Nat:=match k.format.mul x y with
 | some b=>b
 | none=>D6 k
def fdiv (k:FloatKind) (x y:Nat):Nat:=match k.format.div x y with
 | some b=>b
 | none=>D6 k
def Nz (k:FloatKind) (x y:Nat):Bool:=k.format.order x y==some .eq
def TG (k:FloatKind) (x y:Nat):Bool:=k.format.order x y != some .eq
def flt (k:FloatKind) (x y:Nat):Bool:=k.format.order x y==some .lt
def VQ (k:FloatKind) (x y:Nat):Bool:=k.format.order x y==some .lt||k.format.order x y==some .eq
def F4 (k:FloatKind) (x y:Nat):Bool:=k.format.order x y==some .gt
def Ly (k:FloatKind) (x y:Nat):Bool:=k.format.order x y==some .gt||k.format.order x y==some .eq
def na (m:Bool) (k:FloatKind) (x y:Nat):Nat:=match k.format.order x y with
 | none=>D6 k
 | some .lt=>if m then y else x
 | some .gt=>if m then x else y
 | some .eq=>if (k.decode x).neg==m then y else x
def eB (op:BinOp) (k:FloatKind) (x y:Nat):Option T:=match op with
 | .add=>some (.flt k (Au k x y))
 | .sub=>some (.flt k (BW k x y))
 | .mul=>some (.flt k (AM k x y))
 | .quo=>some (.flt k (fdiv k x y))
 | .eql=>some (.bool (Nz k x y))
 | .neq=>some (.bool (TG k x y))
 | .lss=>some (.bool (flt k x y))
 | .leq=>some (.bool (VQ k x y))
 | .gtr=>some (.bool (F4 k x y))
 | .geq=>some (.bool (Ly k x y))
 | _=>none
def gy (x:Option T):Option (Bool × T):=match x with
 | none=>none
 | some t=>some (true,t)
def dm (op:BinOp):T→T→Option (Bool × T)
 | .int k x,.int k' y=>match op with
   | .shl=>some (decide (0≤y),.int k (k.wrap (x * 2 ^ min y.toNat k.bits)))
   | .shr=>some (decide (0≤y),.int k (x.fdiv (2 ^ min y.toNat k.bits)))
   | .quo=>if k=k' then some (!decide (y=0),.int k (k.wrap (x.tdiv y))) else none
   | .rem=>if k=k' then some (!decide (y=0),.int k (x.tmod y)) else none
   | op=>gy (C6 op (.int k x) (.int k' y))
 | .flt k x,.flt k' y=>if k=k' then gy (eB op k x y) else none
 | .str a,.str b=>match op with
   | .add=>some (decide (a.length+b.length≤4611686018427387904),.str (a++b))
   | op=>gy (C6 op (.str a) (.str b))
 | u,v=>gy (C6 op u v)
def Zm {β:Type} (kd:Kd) (u:T) (k:T→Option β):Option β:=match kd,u with
 | .int k',.flt s x=>bd (EE s x k') fun n=>k (.int k' n)
 | .flt k',.flt s x=>bd (Ar s x k') fun y=>k (.flt k' y)
 | kd,u=>match Nf kd u with
   | none=>none
   | some t=>k t
def SI (m:Bool):T→T→Option T
 | .flt k x,.flt k' y=>if k=k' then some (.flt k (na m k x y)) else none
 | u,v=>Kp m u v
def JZ (m:Bool) (t:T):List T→Option T
 | []=>some t
 | u::us=>match SI m t u with
   | none=>none
   | some r=>JZ m r us
def HV (o:Oper) (t:T):Cw:=⟨Ab o (.val false [.leaf] [t] [] 0),none⟩
structure BJ where
 cf : {β:Type}→Nat→List Ae→(Ec→Option β)→Option β
 lp : {β:Type}→Nat→AS→(Ex→AS→Option β)→Option β
def fall {β:Type} (x:Option (Cw × Bool)) (k:Cw→Bool→Option β):Option β:=match x with
 | none=>none
 | some (out,u)=>k out u
def L4 {β:Type} (x:Option Cw) (u:Bool) (k:Cw→Bool→Option β):Option β:=match x with
 | none=>none
 | some out=>k out u
def aC {β:Type} (E:A4) (o:Oper) (t:Nat) (r:Ro) (k:Cw→Bool→Option β):Option β :=
 match E.ty t with
 | none=>none
 | some d=>match CE r with
   | some (j,pl,root)=>match root.root with
     | none=>none
     | some (p,cs,_)=>match Fq (d.zero.map jl) p cs { pl with n:=d.sz,agg:=d.agg } with
       | none=>none
       | some (g,v)=>gd g (if noOwns v.p then k ⟨Ab o (co v),none⟩ false else k ⟨Ab o (.view j { pl with n:=d.sz,agg:=d.agg }),none⟩ false)
   | none=>L4 (Hi E o t r) false k
def WU {β:Type} (E:A4) (o:Oper) (s:Nat) (r:Ro) (f:Nat) (k:Cw→Bool→Option β):Option β :=
 match r with
 | .slot _ (.view j pl) _=>match pl.path with
   | []=>L4 (IS E o s r f) false k
   | _=>match E.ty s with
     | none=>none
     | some d=>match d.kd with
       | .st fs=>match fs[f]? with
         | none=>none
         | some (off,ty)=>match E.ty ty with
           | none=>none
           | some d'=>dM E s r fun v=>match v.agg with
             | false=>none
             | true=>match DP v.p off d'.sz with
               | none=>none
               | some p=>match Ev v.cs off d'.sz with
                 | none=>none
                 | some c=>if noOwns p then k ⟨Ab o (.val d'.agg p c [] 0),none⟩ false else k ⟨Ab o (.view j { pl with c:=pl.c+off,n:=d'.sz,agg:=d'.agg }),none⟩ false
       | _=>none
 | r=>L4 (IS E o s r f) false k
def Rd (E:A4) (t:Nat):Option (List CK):=match E.ty t with
 | none=>none
 | some d=>match d.kd with
   | .slc e=>J8 E e
   | _=>none
def Kq {β:Type} (E:A4) (g:Nat) (o:Oper) (t:Nat) (r ri:Ro) (iTy:Nat) (k:Cw→Bool→Option β):Option β :=
 F8 E iTy ri fun ti=>match ti with
 | .int _ i=>dM E t r fun v=>match v with
   | ⟨false,[.sl fl el],[.lst n cs]⟩=>match Hm E t el.length&&fl.live g with
     | false=>none
     | true=>match fl with
       | .own=>match r with
         | .slot _ (.view j pl) _=>gd (decide (0≤i∧i<(n:Int))) (k ⟨Ab o (.ptr j ⟨pl.path++[(pl.e,pl.c)],i.toNat,0,el.length,false⟩),none⟩ true)
         | .slot j _ _=>gd (decide (0≤i∧i<(n:Int))) (k ⟨Ab o (.ptr j ⟨[(0,0)],i.toNat,0,el.length,false⟩),none⟩ true)
         | _=>none
       | fl=>match Rd E t with
         | none=>none
         | some ks=>match Nat.beq ks.length el.length with
           | false=>none
           | true=>gd (decide (0≤i∧i<(n:Int))&&AI ks cs (ix el.length i.toNat 0)) (k ⟨Ab o (.val false [.rf fl el] [.ref (Lp ks cs (ix el.length i.toNat 0))] [] 0),none⟩ true)
   | _=>none
 | _=>none
def ZC (s:List UInt8) (j:Nat):Int:=match s[j]? with
 | some b=>b.toNat
 | none=>0
def Vx {β:Type} (E:A4) (o:Oper) (t:Nat) (r ri:Ro) (iTy:Nat) (k:Cw→Bool→Option β):Option β :=
 F8 E iTy ri fun ti=>match ti with
 | .int _ i=>F8 E t r fun ts=>match ts with
   | .str s=>match MM E t with
     | false=>none
     | true=>gd (decide (0≤i∧i<(s.length:Int))) (k (HV o (.int .u8 (ZC s i.toNat))) false)
   | _=>none
 | _=>none
def K6 {β:Type} (E:A4) (o:Oper) (t:Nat) (l:Ro) (lTy:Nat) (k:Cw→Bool→Option β):Option β :=
 match E.ty t with
 | some d=>match d.kd with
   | .slc e=>match E.ty e with
     | none=>none
     | some de=>F8 E lTy l fun tl=>match tl with
       | .int .i64 n=>match Nat.ble de.bytes 1024 with
         | false=>none
         | true=>gd (decide (0≤n∧n≤(lim:Int))) (k ⟨Ab o (.val false [.sl .own de.own] [.lst n.toNat (reps n.toNat de.zero)] [] 0),none⟩ false)
       | _=>none
   | _=>none
 | none=>none
def M2 {β:Type} (E:A4) (ty:Nat) (d:Int) (r:Option Ro) (k:Int→Option β):Option β:=match r with
 | none=>k d
 | some r=>F8 E ty r fun t=>match t with
   | .int _ n=>k n
   | _=>none
def Mh {β:Type} (E:A4) (o:Oper) (t:Nat) (r:Ro) (lo hi:Option Ro) (iTy:Nat) (g:Nat) (k:Cw→Bool→Option β):Option β :=
 dM E t r fun v=>match v with
 | ⟨false,[.leaf],[.str s]⟩=>M2 E iTy 0 lo fun l=>M2 E iTy s.length hi fun h=>match MM E t with
   | false=>none
   | true=>gd (decide (0≤l∧l≤h∧h≤(s.length:Int))) (k ⟨Ab o (.val false [.leaf] [.str ((s.drop l.toNat).take (h.toNat - l.toNat))] [] 0),none⟩ true)
 | ⟨false,[.sl fl el],[.lst n cs]⟩=>M2 E iTy 0 lo fun l=>M2 E iTy n hi fun h=>match Hm E t el.length&&fl.live g with
   | false=>none
   | true=>gd (decide (0≤l∧l≤h∧h≤(n:Int))) (
      let c:T:=.lst (h.toNat - l.toNat) ((cs.drop (ix el.length l.toNat 0)).take (ix el.length (h.toNat - l.toNat) 0))
      match fl with
      | .shr=>k ⟨Ab o (.val false [.sl .shr el] [c] [] 0),none⟩ true
      | .lent g'=>k ⟨Ab o (.val false [.sl (.lent g') el] [c] [] 0),none⟩ true
      | .own=>k ⟨Ab o (.val false [.sl (.lent g) (lentifies g el)] [c] [] 0),none⟩ true)
 | _=>none
def ej {β:Type} (E:A4) (g:Nat) (o:Oper) (t:Nat) (r:Ro) (k:Cw→Bool→Option β):Option β :=
 dM E t r fun v=>match v with
 | ⟨false,[.leaf],[.str s]⟩=>if MM E t then k (HV o (.int .i64 s.length)) true else none
 | ⟨false,[.sl fl el],[.lst n _]⟩=>if Hm E t el.length&&fl.live g then k (HV o (.int .i64 n)) true else none
 | _=>none
def OC (f:List T→List T):List Pm→List T→List (Nat × Nat)→List T
 | _,cs,[]=>f cs
 | ps,cs,(e,c)::path=>match ps[c]? with
   | some (.sl .own el)=>cs.set (ix ps.length e c) (.lst (GZ cs (ix ps.length e c)) (OC f el (HD cs (ix ps.length e c)) path))
   | _=>cs
def If (f:List T→List T) (ps:List Pm) (cs:List T):List (Nat × Nat)→List T
 | []=>f cs
 | (e,c)::path=>match ps[c]? with
   | some (.sl .own el)=>match cs[ix ps.length e c]? with
     | some (.lst n cs')=>cs.set (ix ps.length e c) (.lst n (OC f el cs' path))
     | _=>cs
   | _=>cs
def lC {β:Type} (b:Option Bool) (x:Option β):Option β:=match b with
 | none=>x
 | some b=>gd b x
def bi (a b:Option Bool):Option Bool:=match a with
 | none=>b
 | some x=>match b with
   | none=>some x
   | some y=>some (x&&y)
def JJ (root:AA) (pl:Aj) (hs:List T) (n:Nat):Option (Bool × AA) :=
 match root.root with
 | none=>none
 | some (p,cs,d)=>match Gv p cs pl.path with
   | none=>none
   | some (g,el,_)=>some (g,root.withRoot p (If (fun rcs=>AF rcs (ix el.length pl.e pl.c) hs) p cs pl.path) ((G4 pl.path,pl.c,n)::d))
def VX (E:A4) (g:Nat) (ty:Nat) (r:Ro):Option (Option Bool × V × List (Nat × AA)) :=
 match r with
 | .slot t (.view j pl) root=>match pl.path with
   | []=>match MN E g ty (.slot t (.view j pl) root) with
     | none=>none
     | some (v,us)=>some (none,v,us)
   | _=>match Nat.ble pl.n 0 with
     | true=>none
     | false=>match eU E ty (.slot t (.view j pl) root) with
       | some (gg,some v)=>match Bv g v.p with
         | false=>none
         | true=>match noOwns v.p with
           | true=>none
           | false=>match EF v.p v.cs with
             | none=>none
             | some hs=>match JJ root pl hs pl.n with
               | none=>none
               | some (g2,s)=>some (some (gg&&g2),v,[(j,s)])
       | _=>none
 | r=>match MN E g ty r with
   | none=>none
   | some (v,us)=>some (none,v,us)
def Gs (E:A4) (g:Nat) (tys:Nat→Option Nat):List (Nat × Ro)→Option (Option Bool × List (Nat × V) × List (Nat × AA))
 | []=>some (none,[],[])
 | (i,r)::rest=>match tys i with
   | none=>none
   | some ty=>match VX E g ty r with
     | none=>none
     | some (gg,v,u)=>match Gs E g tys rest with
       | none=>none
       | some (g2,vs,us)=>some (bi gg g2,(i,v)::vs,u++us)
def Ja {β:Type} (E:A4) (g:Nat) (o:Oper) (t len:Nat) (parts:List (Nat × Ro)) (k:Cw→Bool→Option β):Option β :=
 match E.ty t with
 | some d=>match d.kd with
   | .slc e=>match E.ty e with
     | none=>none
     | some de=>if Nat.ble (len * de.sz) 65536 then (match Gs E g (fun _=>some e) parts with
       | none=>none
       | some (gg,vs,us)=>match Q3 (GD de.own vs) (fun i=>some (i * de.sz,de.sz)) (reps len de.zero) vs with
         | none=>none
         | some cs=>if C8 (us.map (·.1)) then lC gg (k ⟨Ab o (.val false [.sl .own (GD de.own vs)] [.lst len cs] [] 0)++us,none⟩ true) else none) else none
   | _=>none
 | none=>none
def M0 (E:A4) (t1:Nat) (s:Ro):Option (Option Bool × Nat × List T × List Pm × List (Nat × AA)) :=
 match s with
 | .slot t (.view j pl) root=>match pl.path with
   | []=>match Gw E t1 (.slot t (.view j pl) root) with
     | none=>none
     | some r=>some (none,r)
   | _=>match root.pinned with
     | true=>none
     | false=>match eU E t1 (.slot t (.view j pl) root) with
       | some (gg,some ⟨false,[.sl .own el],[.lst n cs]⟩)=>match JJ root pl [.nil] 1 with
         | none=>none
         | some (g2,s)=>some (some (gg&&g2),n,cs,el,[(j,s)])
       | _=>none
 | s=>match Gw E t1 s with
   | none=>none
   | some r=>some (none,r)
def Ms (E:A4) (g t2:Nat) (x:Ro):Option (Bool × Nat × List T × List Pm × List (Nat × AA)) :=
 match x with
 | .slot t (.view j pl) root=>match pl.path with
   | []=>match Gy E g t2 (.slot t (.view j pl) root) with
     | none=>none
     | some r=>some (true,r)
   | _=>match eU E t2 (.slot t (.view j pl) root) with
     | some (gg,some ⟨false,[.sl fl el],[.lst m cs]⟩)=>if Hm E t2 el.length∧fl.live g then (if noOwns el then some (gg,m,cs,el,[]) else none) else none
     | _=>none
 | x=>match Gy E g t2 x with
   | none=>none
   | some r=>some (true,r)
def Sg {β:Type} (E:A4) (g:Nat) (o:Oper) (t1 t2:Nat) (s x:Ro) (k:Cw→Bool→Option β):Option β :=
 match E.ty t1 with
 | some d=>match d.kd with
   | .slc e=>match E.ty e with
     | none=>none
     | some de=>match M0 E t1 s with
       | none=>none
       | some (g1,n,cs,el,us)=>match Ms E g t2 x with
         | none=>none
         | some (gg,m,cs',el',us')=>match Wm n el el'&&Bv g el'&&C8 ((us++us').map (·.1))&&Nat.ble de.bytes 1024&&el'.length==de.sz with
           | false=>none
           | true=>lC g1 (gd (gg&&Nat.ble (n+m) lim) (k ⟨Ab o (.val false [.sl .own el'] [.lst (n+m) (cs++cs')] [] 0)++(us++us'),none⟩ true))
   | _=>none
 | none=>none
def WO {β:Type} (E:A4) (g:Nat) (t:Nat) (r x:Ro) (k:Cw→Bool→Option β):Option β :=
 match CE r with
 | none=>none
 | some (j,pl,root)=>match pl.path with
   | []=>match HR E g t r x with
     | none=>none
     | some (out,row)=>if row then k ⟨out.ups,some (g+1)⟩ true else k out true
   | path=>match E.ty t with
     | none=>none
     | some d=>match root.root with
       | none=>none
       | some (p,cs,dd)=>match MN E g t x with
         | none=>none
         | some (v,us)=>match Gv p cs path with
           | none=>none
           | some (gg,el,rcs)=>match DP el pl.c d.sz with
             | none=>none
             | some q=>match v.cs.length==d.sz && !(us.any fun u=>u.1==j)&&pbeqs v.p q&&Nat.blt 0 d.sz with
               | false=>none
               | true=>gd (gg&&Nat.ble (ix el.length pl.e pl.c+d.sz) rcs.length)
                  (k ⟨us++[(j,root.withRoot p (If (fun rcs=>AF rcs (ix el.length pl.e pl.c) v.cs) p cs path) ((G4 path,pl.c,d.sz)::dd))],some (g+1)⟩ true)
def S8 {β:Type} (E:A4) (o:Oper) (r:Ro) (old:AA) (k:Cw→Bool→Option β):Option β :=
 match r with
 | .slot t (.view j pl) root=>match pl.path with
   | []=>L4 (F2 E o (.slot t (.view j pl) root) old) false k
   | path=>if old.pinned then none else match o.dst with
     | none=>none
     | some dst=>if t=dst then none else if j=dst then none else match root with
       | .val _ p cs d pin=>if pin != 0||FG d pl then none else if Nat.ble pl.n 0 then none else match J8 E o.type with
         | none=>none
         | some ks=>match Fq ks p cs pl with
           | none=>none
           | some (g,v)=>match Gv p cs path with
             | none=>none
             | some (gg,el,_)=>match EF v.p v.cs with
               | none=>none
               | some hs=>gd (g&&gg) (k ⟨[(dst,.val v.agg v.p v.cs Cl 0),(j,root.withRoot p (If (fun rcs=>AF rcs (ix el.length pl.e pl.c) hs) p cs path) ((G4 path,pl.c,pl.n)::d))],none⟩ false)
       | .box p cs d _=>if FG d pl then none else if Nat.ble pl.n 0 then none else match J8 E o.type with
         | none=>none
         | some ks=>match Fq ks p cs pl with
           | none=>none
           | some (g,v)=>match Gv p cs path with
             | none=>none
             | some (gg,el,_)=>match EF v.p v.cs with
               | none=>none
               | some hs=>gd (g&&gg) (k ⟨[(dst,.val v.agg v.p v.cs Cl 0),(j,root.withRoot p (If (fun rcs=>AF rcs (ix el.length pl.e pl.c) hs) p cs path) ((G4 path,pl.c,pl.n)::d))],none⟩ false)
       | _=>none
 | r=>L4 (F2 E o r old) false k
def Ox {β:Type} (E:A4) (g:Nat) (o:Oper) (src dst:Nat) (r:Ro) (k:Cw→Bool→Option β):Option β :=
 match E.ty dst with
 | none=>none
 | some d=>dM E src r fun v=>match v with
   | ⟨false,[.leaf],[u]⟩=>if SQ E src then Zm d.kd u fun t=>k (HV o t) true else none
   | ⟨false,[.sl fl [.leaf]],[.lst _ cs]⟩=>if OE E src&&fl.live g then (match d.kd with
     | .str=>bd (LD cs) fun bs=>k (HV o (.str bs)) true
     | _=>none) else none
   | _=>none
def Tp (E:A4):List Nat→List Ro→Option (Bool × List (Option V))
 | ty::tys,r::rs=>match eU E ty r with
   | none=>none
   | some (g,o)=>match Tp E tys rs with
     | none=>none
     | some (g',os)=>some (g&&g',o::os)
 | _,_=>some (true,[])
def LU:List (Option V)→Bool
 | o::os=>(match o with
   | some v=>noLents v.p
   | none=>true)&&LU os
 | []=>true
def La:List DG→List (Option V)→Bool
 | .val::ms,o::os=>(match o with
   | some v=>noOwns v.p&&noLents v.p
   | none=>false)&&La ms os
 | _::ms,_::os=>La ms os
 | _,_=>true
def V3 (E:A4) (gm:Option Nat) (m:DG) (ty:Nat) (r:Ro) (o:Option V):Option (Bool × Ae × List (Nat × Aj)) :=
 match m with
 | .val=>match o with
   | some v=>some (true,⟨.val,⟨v.agg,shareBy gm v.p,v.cs⟩⟩,[])
   | none=>match r with
     | .slot _ (.ptr _ pl) root=>match pl.path with
       | []=>match Ej E gm .val ty r with
         | none=>none
         | some (a,ks)=>some (true,a,ks)
       | _=>match E.ty ty with
         | none=>none
         | some d=>match d.kd with
           | .ptr e=>match J8 E e with
             | none=>none
             | some ks=>match root.root with
               | none=>none
               | some (p,cs,dd)=>match Cv dd pl with
                 | true=>none
                 | false=>match Fq ks p cs pl with
                   | none=>none
                   | some (g,v)=>match Nat.ble pl.n 0 with
                     | true=>none
                     | false=>some (g,⟨.val,⟨false,[.rf .shr (shareBy gm v.p)],[.ref v.cs]⟩⟩,[])
           | _=>none
     | r=>match Ej E gm .val ty r with
       | none=>none
       | some (a,ks)=>some (true,a,ks)
 | .io=>match GW r with
   | none=>none
   | some (k,pl,root)=>match pl.path with
     | []=>match Ej E gm .io ty r with
       | none=>none
       | some (a,ks)=>some (true,a,ks)
     | _=>match root.root with
       | none=>none
       | some (p,cs,d)=>match FG d pl||Nat.ble pl.n 0 with
         | true=>none
         | false=>match J8 E ty with
           | none=>none
           | some ks=>match Fq ks p cs pl with
             | none=>none
             | some (g,v)=>match noLents v.p with
               | true=>some (g,⟨.io,v⟩,[(k,pl)])
               | false=>none
 | m=>match Ej E gm m ty r with
   | none=>none
   | some (a,ks)=>some (true,a,ks)
def Ps (a:Ae) (pl:Aj) (root:AA) (v:V):Option (Bool × AA):=match pl.path with
 | []=>match EM a pl root v with
   | none=>none
   | some s=>some (true,s)
 | path=>match a.m with
   | .io=>match root.root with
     | none=>none
     | some (p,cs,d)=>match pbeqs v.p a.v.p&&v.cs.length==pl.n with
       | false=>match O1 v.p&&v.p.length==pl.n&&v.cs.length==pl.n with
         | false=>none
         | true=>match EF a.v.p a.v.cs with
           | none=>none
           | some hs=>JJ root pl hs pl.n
       | true=>match Gv p cs path with
         | none=>none
         | some (g,el,_)=>some (g,root.withRoot p (If (fun rcs=>AF rcs (ix el.length pl.e pl.c) v.cs) p cs path) ((G4 path,pl.c,pl.n)::d))
   | _=>none
def EW (roots:Nat→AA):List Ae→List (Nat × Aj)→List V→Option (Bool × List (Nat × AA))
 | [],[],[]=>some (true,[])
 | a::as,ks,vs=>match a.m with
   | .val=>EW roots as ks vs
   | _=>match ks,vs with
     | (k,pl)::ks,v::vs=>match Ps a pl (roots k) v with
       | none=>none
       | some (g,s)=>match EW roots as ks vs with
         | none=>none
         | some (g',us)=>some (g&&g',(k,s)::us)
     | _,_=>none
 | _,_,_=>none
def E9 (E:A4) (gm:Option Nat):List DG→List Nat→List Ro→List (Option V)→Option (Bool × List Ae × List (Nat × Aj))
 | [],[],[],_=>some (true,[],[])
 | m::ms,ty::tys,r::rs,o::os=>match V3 E gm m ty r o with
   | none=>none
   | some (g,a,ks)=>match E9 E gm ms tys rs os with
     | none=>none
     | some (g',as,ks')=>some (g&&g',a::as,ks++ks')
 | _,_,_,_=>none
def UM {β:Type} (E:A4) (O:BJ) (o:Oper) (f:Nat) (tys:List Nat) (rs:List Ro) (g:Nat) (k:Cw→Bool→Option β):Option β :=
 match E.fn f with
 | none=>none
 | some fd=>match Tp E tys rs with
   | none=>none
   | some (g0,os) =>
     if (fd.modes rs.length).all Kh then
      (if LU os then
        (match E9 E none (fd.modes rs.length) tys rs os with
        | none=>none
        | some (g1,as,_)=>gd g0 (gd g1 (O.cf f as fun r=>if Ip (La (fd.modes rs.length) os) r.rs then k ⟨As o r.rs,none⟩ false else none)))
      else match E9 E (some g) (fd.modes rs.length) tys rs os with
       | none=>none
       | some (g1,as,_)=>gd g0 (gd g1 (O.cf f as fun r=>if Ip false r.rs then k ⟨As o r.rs,none⟩ true else none)))
     else match E9 E none (fd.modes rs.length) tys rs os with
      | none=>none
      | some (g1,as,ks) =>
        if C8 (ks.map (·.1)) && !((EH (fd.modes rs.length) rs).any fun k=>(ks.map (·.1)).any fun k'=>k==k') then
         gd g0 (gd g1 (O.cf f as fun r=>if Ip (La (fd.modes rs.length) os) r.rs&&Ip (La (fd.modes rs.length) os) (r.outs.filterMap id) then (match EW (DF rs) as ks (r.outs.filterMap id) with
          | none=>none
          | some (g2,us)=>gd g2 (if C8 ((As o r.rs++us).map (·.1)) then k ⟨As o r.rs++us,some (g+1)⟩ true else none)) else none))
        else none
def Ij {β:Type} (E:A4):List Nat→List Ro→(List T→Option β)→Option β
 | [],[],k=>k []
 | ty::tys,r::rs,k=>F8 E ty r fun t=>Ij E tys rs fun ts=>k (t::ts)
 | _,_,_=>none
def lW {β:Type} (E:A4) (O:BJ) (o:Oper) (rs:List Ro) (old:AA) (g:Nat) (k:Cw→Bool→Option β):Option β :=
 match o.op,rs with
 | .pick _ _ _,[c,x,y]=>F8 E 0 c fun t=>match t with
   | .bool b=>br b (L4 (DJ E o x) false k) (L4 (DJ E o y) false k)
   | _=>none
 | .load t _,[r]=>aC E o t r k
 | .assign _,[r]=>S8 E o r old k
 | .buildSlice t len parts,rs=>Ja E g o t len ((parts.toList.map (·.1)).zip rs) k
 | .store t _ _,[r,x]=>if o.dst.isSome then none else WO E g t r x k
 | .binOp op xt _ _ yt,[x,y]=>F8 E xt x fun u=>F8 E yt y fun v=>if UA E xt u then (match dm op u v with
   | none=>none
   | some (gg,t)=>gd gg (k (HV o t) false)) else none
 | .unOp op xt _,[x]=>F8 E xt x fun u=>match dH op u with
   | none=>none
   | some t=>k (HV o t) false
 | .convert src dst _,[x]=>Ox E g o src dst x k
 | .makeSlice t l c,[x,_]=>if Fo l c then K6 E o t x 0 k else none
 | .slice t _ lo hi none,r::rs=>match lo,hi,rs with
   | none,none,[]=>Mh E o t r none none 0 g k
   | some _,none,[x]=>Mh E o t r (some x) none 0 g k
   | none,some _,[y]=>Mh E o t r none (some y) 0 g k
   | some _,some _,[x,y]=>Mh E o t r (some x) (some y) 0 g k
   | _,_,_=>none
 | .field s _ f,[r]=>WU E o s r f k
 | .indexAddr t _ _,[r,i]=>Kq E g o t r i 0 k
 | .index t _ _,[r,i]=>Vx E o t r i 0 k
 | .call c,rs=>match c.callee with
   | .builtin b=>match b,c.argTypes.toList,rs with
     | .len,[t],[r]=>ej E g o t r k
     | .append,[t1,t2],[s,x]=>Sg E g o t1 t2 s x k
     | .max,tys,rs=>Ij E tys rs fun ts=>match ts with
       | t::ts=>match JZ true t ts with
         | none=>none
         | some t=>k (HV o t) false
       | _=>none
     | .min,tys,rs=>Ij E tys rs fun ts=>match ts with
       | t::ts=>match JZ false t ts with
         | none=>none
         | some t=>k (HV o t) false
       | _=>none
     | _,_,_=>none
   | .value (.func f)=>UM E O o f c.argTypes.toList (rs.drop 1) g k
   | .value _=>match rs with
     | .clo _ f caps::rs=>UM E O o f (c.argTypes.toList++caps.map fun _=>0) (rs++caps.map fun x => .slot x.1 (.ptr x.1 x.2.1) x.2.2) g k
     | .slot _ (.val false [.fn ps] [.fn f ts] _ _) _::rs=>UM E O o f (c.argTypes.toList++ps.map fun _=>0) (rs++(ps.zip ts).map fun x => .v ⟨false,[x.1],[x.2]⟩) g k
     | _=>none
   | _=>none
 | _,_=>fall (Be E (fun _ _=>none) o rs old g) k
def fX {β:Type} (E:A4) (O:BJ) (o:Oper) (f:List Nat) (σ:AS) (k:Fi→Option β):Option β :=
 lW E O o (Am σ.env o.op) (KP σ.env o) σ.g fun out usesG=>if Fu o (KP σ.env o) out.ups then k ⟨out.ups,out.g,
    f++Pb o.op (Am σ.env o.op) out.ups++GP o++(if usesG then [G] else []),
    out.ups.map (·.1)++Oa σ.env out.ups++(match out.g with
     | none=>[]
     | some _=>[G])⟩ else none
def AA.withBool (c:Bool):AA→AA
 | .val a p [.bool _] d pin => .val a p [.bool c] d pin
 | s=>s
def Zd:List (Nat × AA)→Nat→Bool→List (Nat × AA)
 | [],_,_=>[]
 | (j,s)::r,d,c=>match Nat.beq j d with
   | true=>(j,s.withBool c)::r
   | false=>(j,s)::Zd r d c
def ZQ {β:Type} (ops:Array Oper) (o:Oper) (σ:AS) (k:AS→Option β):Option β :=
 match o.guard with
 | none=>k σ
 | some (j,_)=>match (ops[j]?).bind (·.dst) with
   | none=>none
   | some d=>match AO σ.env d with
     | .val false [.leaf] [.bool b] _ _=>br b (k ⟨Zd σ.env d true,σ.g⟩) (k ⟨Zd σ.env d false,σ.g⟩)
     | _=>k σ
def ZT {β:Type} (E:A4) (O:BJ) (ops:Array Oper) (o:Oper) (σ:AS) (k:Fi→Option β):Option β :=
 match HT ops σ.env o with
 | none=>none
 | some (true,f)=>fX E O o f σ k
 | some (false,f)=>k ⟨Ab o .und,none,f,GP o++(GP o).map EQ⟩
def Lu {β:Type} (E:A4) (O:BJ) (ops:Array Oper):List Oper→AS→List (List Nat × List Nat)→(AS→List (List Nat × List Nat)→Option β)→Option β
 | [],σ,fs,k=>k σ fs.reverse
 | o::os,σ,fs,k=>ZQ ops o σ fun σ=>ZT E O ops o σ fun st=>Lu E O ops os ⟨BN st.ups σ.env,st.g.getD σ.g⟩ ((st.foot,st.writes)::fs) k
def dY:Code→Nat
 | .region id _ _=>16 * id
 | .seq a _=>dY a
 | .cond _ x _=>dY x
 | .block _ x=>dY x
 | .loop x=>dY x+1
 | _=>0
def rg {β:Type} (σ:AS) (k:AS→Option β):Option β:=k σ
def Gu {β:Type} (E:A4) (O:BJ) (keep:List (Nat × List Nat)):Code→AS→(Ex→AS→Option β)→Option β
 | .skip,σ,k=>k .normal σ
 | .region id ops draw,σ,k=>rg (settle (CJ keep id) σ) fun σ=>Lu E O ops ops.toList σ [] fun σ' fs=>if !draw||FA (Region.before ops) 0 [] fs then k .normal σ' else none
 | .seq a b,σ,k=>Gu E O keep a σ fun ex σ'=>match ex with
   | .normal=>Gu E O keep b σ' k
   | .exit id=>k (.exit id) σ'
   | .ret=>k .ret σ'
 | .cond c x y,σ,k=>F8 E 0 (AB σ.env c) fun t=>match t with
   | .bool b=>br b (Gu E O keep x σ k) (Gu E O keep y σ k)
   | _=>none
 | .block id body,σ,k=>Gu E O keep body σ fun ex σ'=>match ex with
   | .exit id'=>if id'=id then k .normal σ' else k (.exit id') σ'
   | .normal=>k .normal σ'
   | .ret=>k .ret σ'
 | .loop body,σ,k=>O.lp (dY body) (settle (CJ keep (Cr body)) σ) k
 | .exit id,σ,k=>k (.exit id) σ
 | .ret,σ,k=>k .ret σ
 | _,_,_=>none
def Co:Code→List Code
 | .loop b=>[b]
 | .seq a b=>Co a++Co b
 | .cond _ a b=>Co a++Co b
 | .block _ a=>Co a
 | _=>[]
def Gp:Code→List Code
 | .loop b=>b::Gp b
 | .seq a b=>Gp a++Gp b
 | .cond _ a b=>Gp a++Gp b
 | .block _ a=>Gp a
 | _=>[]
def Ac (c:Code) (i:Nat):Code:=(Gp c).getD i .skip
def ko {β:Type} (E:A4) (O:BJ) (f:Nat) (as:List Ae) (k:Ec→Option β):Option β :=
 match E.fn f with
 | some (.code c modes outs results keep)=>if ES modes as then Gu E O keep c ⟨JR 0 as,0⟩ fun ex σ=>match TF modes outs results keep (some (ex,σ)) with
   | none=>none
   | some r=>k r else none
 | _=>none
theorem UI {cs:List T} {j:Nat} (h:AI [.lst] cs j=true):cs[j]?=some (.lst (GZ cs j) (HD cs j)):=by
 simp only[AI,Bool.and_true] at h
 split at h
 ·rename_i t ht
  cases t <;>simp[MY] at h
  simp[GZ,HD,ht]
 ·simp at h
theorem Lw:∀ {path:List (Nat × Nat)} {ps:List Pm} {cs:List T} {r:List Pm × List T},K3 ps cs path=some (true,r)→rowAt ps cs path=some r
 | [],ps,cs,r,h=>by simp only[K3,zS,zP,true_and] at h;rw[← h];rfl
 | (e,c)::path,ps,cs,r,h=>by
   simp only[K3] at h
   split at h
   ·rename_i el hc
    split at h
    ·simp at h
    ·rename_i g r' hr
     simp only[zS,zP,zB] at h
     obtain ⟨⟨rfl,h2⟩,rfl⟩:=h
     simp only[rowAt,hc,UI h2]
     exact Lw hr
   ·simp at h
theorem Dz {path:List (Nat × Nat)} {ps:List Pm} {cs:List T} {r:List Pm × List T} (h:Gv ps cs path=some (true,r)):rowAt ps cs path=some r:=by
 cases path with
 | nil=>simp only[Gv,zS,zP,true_and] at h;rw[← h];rfl
 | cons ec path =>
   obtain ⟨e,c⟩:=ec
   simp only[Gv] at h
   split at h
   ·rename_i el hc
    split at h
    ·rename_i n cs' hcs
     simp only[rowAt,hc,hcs]
     exact Lw h
    ·simp at h
   ·simp at h
theorem C5 {ks:List CK} {ps:List Pm} {cs:List T} {pl:Aj} {v:V} (h:Fq ks ps cs pl=some (true,v)):atPlace ps cs pl=some v:=by
 unfold Fq at h
 split at h
 ·split at h
  ·simp at h
  ·rename_i v' hv
   simp only[zS,zP,true_and] at h
   rw[hv,h]
 ·split at h
  ·simp at h
  rename_i g el rcs hr
  split at h
  ·simp at h
  rename_i hl
  have hl:ks.length=pl.n:=by simpa using hl
  split at h
  ·simp at h
  rename_i p hp
  simp only[zS,zP,zB] at h
  obtain ⟨⟨rfl,h2⟩,rfl⟩:=h
  have:=Kw h2
  rw[hl] at this
  simp only[atPlace,Dz hr,hp,this]
theorem Gf {E:A4} {ty:Nat} {r:Ro} {o:Option V} (h:eU E ty r=some (true,o)):Ax E ty r=o:=by
 unfold eU at h
 split at h
 ·rename_i t j pl root
  split at h
  ·rename_i hr
   simp only[zS,zP,true_and] at h
   simp only[Ax,hr,← h]
  ·rename_i p cs d hr
   split at h
   ·rename_i hst
    simp only[zS,zP,true_and] at h
    simp only[Ax,hr,hst,← h,if_true]
   ·rename_i hst
    split at h
    ·simp at h
    ·split at h
     ·simp at h
     ·rename_i ks _ g v hat
      simp only[zS,zP] at h
      obtain ⟨rfl,rfl⟩:=h
      simp only[Ax,hr,hst,Bool.false_eq_true,if_false,C5 hat]
 ·simp only[zS,zP,true_and] at h
  exact h
theorem Gd {β:Type} {E:A4} {ty:Nat} {r:Ro} {k:V→Option β} {x:β} (h:dM E ty r k=some x):∃ v,Ax E ty r=some v∧k v=some x:=by
 unfold dM at h
 split at h
 ·rename_i g v hr
  obtain ⟨rfl,h2⟩:=Bz h
  exact ⟨v,Gf hr,h2⟩
 ·simp at h
theorem Bn {β:Type} {E:A4} {ty:Nat} {r:Ro} {k:T→Option β} {x:β} (h:F8 E ty r k=some x):∃ t,Bp E ty r=some t∧k t=some x:=by
 obtain ⟨v,h1,h2⟩:=Gd h
 split at h2
 ·rename_i t
  exact ⟨t,by simp only[Bp,h1],h2⟩
 ·simp at h2
theorem KB {x:Option T} {t:T} {g:Bool} (h:gy x=some (g,t)):x=some t:=by
 cases x <;>simp[gy] at h
 rw[h.2]
theorem Vl {op:BinOp} {k:FloatKind} {x y:Nat} {t:T} (h:eB op k x y=some t):C6 op (.flt k x) (.flt k y)=some t:=by
 cases op <;>simp only[eB] at h <;>first | (simp only[C6,if_true];exact h) | (simp at h)
theorem VS {op:BinOp} {u v t:T} (h:dm op u v=some (true,t)):C6 op u v=some t:=by
 unfold dm at h
 split at h
 ·rename_i k x k' y
  split at h
  ·simp only[zS,zP,decide_eq_true_eq] at h
   simp only[C6];rw[if_pos h.1,h.2]
  ·simp only[zS,zP,decide_eq_true_eq] at h
   simp only[C6];rw[if_pos h.1,h.2]
  ·split at h
   ·rename_i e
    simp only[zS,zP,Bool.not_eq_true',decide_eq_false_iff_not] at h
    simp only[C6];rw[if_pos e,if_neg h.1,h.2]
   ·simp at h
  ·split at h
   ·rename_i e
    simp only[zS,zP,Bool.not_eq_true',decide_eq_false_iff_not] at h
    simp only[C6];rw[if_pos e,if_neg h.1,h.2]
   ·simp at h
  ·exact KB h
 ·split at h
  ·rename_i e;subst e
   exact Vl (KB h)
  ·simp at h
 ·rename_i a b
  split at h
  ·simp only[zS,zP,decide_eq_true_eq] at h
   simp only[C6];rw[if_pos h.1,h.2]
  ·exact KB h
 ·exact KB h
theorem T0 {β:Type} {kd:Kd} {u:T} {k:T→Option β} {x:β} (h:Zm kd u k=some x):∃ t,Nf kd u=some t∧k t=some x:=by
 unfold Zm at h
 split at h
 ·obtain ⟨n,h1,h2⟩:=Dy h
  exact ⟨_,by simp only[Nf,h1],h2⟩
 ·obtain ⟨n,h1,h2⟩:=Dy h
  exact ⟨_,by simp only[Nf,h1],h2⟩
 ·split at h
  ·simp at h
  ·rename_i t ht
   exact ⟨t,ht,h⟩
theorem Qs {m:Bool} {u v t:T} (h:SI m u v=some t):Kp m u v=some t:=by
 unfold SI at h
 split at h
 ·rename_i k x k' y
  split at h
  ·rename_i e;subst e
   simp only[zS] at h
   subst h
   simp only[Kp,ne_eq,not_true_eq_false,if_false,na]
   split <;>(first | rfl | simp_all)
  ·simp at h
 ·exact h
theorem G3 {m:Bool}:∀ {us:List T} {t r:T},JZ m t us=some r→Fa m t us=some r
 | [],t,r,h=>h
 | u::us,t,r,h=>by
   simp only[JZ] at h
   split at h
   ·simp at h
   ·rename_i t' ht
    simp only[Fa,Qs ht]
    exact G3 h
theorem EZ (o:Oper) (t:T):CG o (some t)=some (HV o t):=rfl
section
variable {β:Type} {E:A4} {O:BJ} {cf:Nat→List Ae→Option Ec} {o:Oper} {k:Cw→Bool→Option β} {x:β}
theorem Dk {y:Option Cw} {u:Bool} (h:L4 y u k=some x):∃ out,y=some out∧k out u=some x:=by
 unfold L4 at h
 split at h
 ·simp at h
 ·exact ⟨_,rfl,h⟩
theorem TS {t:Nat} {r:Ro} (h:aC E o t r k=some x):∃ out,Hi E o t r=some out∧k out false=some x:=by
 unfold aC at h
 split at h
 ·simp at h
 rename_i d hd
 split at h
 ·rename_i j pl root hp
  split at h
  ·simp at h
  rename_i p cs dd hr
  split at h
  ·simp at h
  rename_i g v hat
  obtain ⟨rfl,h⟩:=Bz h
  have:=C5 hat
  unfold Hi
  simp only[hd,hp,hr,this]
  split at h
  ·rename_i hn
   exact ⟨_,by rw[if_pos hn],h⟩
  ·rename_i hn
   exact ⟨_,by rw[if_neg hn],h⟩
 ·exact Dk h
theorem Rj {s:Nat} {r:Ro} {f:Nat} (h:WU E o s r f k=some x):∃ out,IS E o s r f=some out∧k out false=some x:=by
 unfold WU at h
 split at h
 ·rename_i t j pl root
  split at h
  ·exact Dk h
  ·split at h
   ·simp at h
   rename_i d hd
   split at h
   ·rename_i fs hk
    split at h
    ·simp at h
    rename_i off ty hf
    split at h
    ·simp at h
    rename_i d' hd'
    obtain ⟨v,hv,h⟩:=Gd h
    split at h
    ·simp at h
    rename_i hag
    split at h
    ·simp at h
    rename_i p hp
    split at h
    ·simp at h
    rename_i c hc
    unfold IS
    simp only[hd,hk,hf,hd',hv,hag,hp,hc,Bool.not_true,Bool.false_eq_true,if_false]
    split at h
    ·rename_i hn
     exact ⟨_,by rw[if_pos hn],h⟩
    ·rename_i hn
     exact ⟨_,by rw[if_neg hn],h⟩
   ·simp at h
 ·exact Dk h
theorem Mv {t n:Nat} {ks:List CK}:Rd E t=some ks→Nat.beq ks.length n=true→ks.length=n:=fun _ h=>by simpa using h
theorem Ml {g t iTy:Nat} {r ri:Ro} (h:Kq E g o t r ri iTy k=some x):∃ out,Fv E g o t r ri iTy=some out∧k out true=some x:=by
 unfold Kq at h
 obtain ⟨ti,h1,h⟩:=Bn h
 split at h
 ·rename_i ik i
  obtain ⟨v,h2,h⟩:=Gd h
  split at h
  ·rename_i fl el n cs
   unfold Fv
   simp only[h1,h2]
   split at h
   ·simp at h
   rename_i hst
   simp only[zB] at hst
   split at h
   ·split at h
    ·obtain ⟨hb,h⟩:=Bz h
     have hb:=of_decide_eq_true hb
     exact ⟨_,by rw[if_pos ⟨hb.1,hb.2,hst.1,hst.2⟩],h⟩
    ·rename_i j s root hns _ _
     obtain ⟨hb,h⟩:=Bz h
     have hb:=of_decide_eq_true hb
     refine ⟨_,?_,h⟩
     rw[if_pos ⟨hb.1,hb.2,hst.1,hst.2⟩]
     cases s <;>first | rfl | exact (hns _ _ rfl).elim
    ·simp at h
   ·rename_i hfl
    split at h
    ·simp at h
    rename_i ks hks
    split at h
    ·simp at h
    rename_i hl
    obtain ⟨hb,h⟩:=Bz h
    simp only[zB] at hb
    have hb1:=of_decide_eq_true hb.1
    have hc:=Kw hb.2
    rw[Mv hks hl] at hc
    refine ⟨_,?_,h⟩
    rw[if_pos ⟨hb1.1,hb1.2,hst.1,hst.2⟩]
    cases fl with
    | own=>exact absurd rfl (hfl)
    | shr=>simp only[hc]
    | lent g'=>simp only[hc]
  ·simp at h
 ·simp at h
theorem Rz {t iTy:Nat} {r ri:Ro} (h:Vx E o t r ri iTy k=some x):∃ out,Lz E o t r ri iTy=some out∧k out false=some x:=by
 unfold Vx at h
 obtain ⟨ti,h1,h⟩:=Bn h
 split at h
 ·rename_i ik i
  obtain ⟨ts,h2,h⟩:=Bn h
  split at h
  ·rename_i s
   split at h
   ·simp at h
   rename_i hst
   obtain ⟨hb,h⟩:=Bz h
   have hb:=of_decide_eq_true hb
   have hlt:i.toNat<s.length:=by omega
   unfold Lz
   simp only[h1,h2]
   refine ⟨_,?_,h⟩
   rw[if_pos ⟨hb.1,hst⟩]
   simp only[ZC,List.getElem?_eq_getElem hlt]
   rfl
  ·simp at h
 ·simp at h
theorem Mu {t lTy:Nat} {l:Ro} (h:K6 E o t l lTy k=some x):∃ out,Ft E o t l lTy=some out∧k out false=some x:=by
 unfold K6 at h
 split at h
 ·rename_i d hd
  split at h
  ·rename_i e hk
   split at h
   ·simp at h
   rename_i de hde
   obtain ⟨tl,h1,h⟩:=Bn h
   split at h
   ·rename_i n
    split at h
    ·simp at h
    rename_i hby
    obtain ⟨hb,h⟩:=Bz h
    have hb:=of_decide_eq_true hb
    unfold Ft
    simp only[hd,hk,hde,h1]
    exact ⟨_,by rw[if_pos ⟨hb.1,hb.2,by simpa using hby⟩],h⟩
   ·simp at h
  ·simp at h
 ·simp at h
theorem GG {β:Type} {x:β} {ty:Nat} {d:Int} {r:Option Ro} {k:Int→Option β} (h:M2 E ty d r k=some x):∃ n,LX E ty d r=some n∧k n=some x:=by
 unfold M2 at h
 split at h
 ·exact ⟨d,rfl,h⟩
 ·obtain ⟨t,h1,h⟩:=Bn h
  split at h
  ·exact ⟨_,by simp only[LX,h1],h⟩
  ·simp at h
theorem GR {t iTy g:Nat} {r:Ro} {lo hi:Option Ro} (h:Mh E o t r lo hi iTy g k=some x):∃ out,HH E o t r lo hi iTy g=some out∧k out true=some x:=by
 unfold Mh at h
 obtain ⟨v,h1,h⟩:=Gd h
 unfold HH
 split at h
 ·rename_i s
  simp only[h1]
  obtain ⟨l,h2,h⟩:=GG h
  obtain ⟨hh,h3,h⟩:=GG h
  split at h
  ·simp at h
  rename_i hst
  obtain ⟨hb,h⟩:=Bz h
  have hb:=of_decide_eq_true hb
  simp only[h2,h3]
  exact ⟨_,by rw[if_pos ⟨hb.1,hb.2.1,hb.2.2,hst⟩],h⟩
 ·rename_i fl el n cs
  simp only[h1]
  obtain ⟨l,h2,h⟩:=GG h
  obtain ⟨hh,h3,h⟩:=GG h
  split at h
  ·simp at h
  rename_i hst
  simp only[zB] at hst
  obtain ⟨hb,h⟩:=Bz h
  have hb:=of_decide_eq_true hb
  simp only[h2,h3]
  rw[if_pos ⟨hb.1,hb.2.1,hb.2.2,hst.1,hst.2⟩]
  cases fl with
  | shr=>exact ⟨_,rfl,h⟩
  | lent g'=>exact ⟨_,rfl,h⟩
  | own=>exact ⟨_,rfl,h⟩
 ·simp at h
theorem Vv {g t:Nat} {r:Ro} (h:ej E g o t r k=some x):∃ out,TP E g o t r=some out∧k out true=some x:=by
 unfold ej at h
 obtain ⟨v,h1,h⟩:=Gd h
 unfold TP
 split at h
 ·simp only[h1]
  split at h
  ·rename_i hs
   exact ⟨_,by rw[if_pos hs,EZ],h⟩
  ·simp at h
 ·simp only[h1]
  split at h
  ·rename_i hs
   simp only[zB] at hs
   exact ⟨_,by rw[if_pos ⟨hs.1,hs.2⟩,EZ],h⟩
  ·simp at h
 ·simp at h
theorem KH {f:List T→List T}:∀ {path:List (Nat × Nat)} {ps:List Pm} {cs:List T} {r:List Pm × List T},K3 ps cs path=some (true,r)→OC f ps cs path=BT ps cs path f
 | [],_,_,_,_=>rfl
 | (e,c)::path,ps,cs,r,h=>by
   simp only[K3] at h
   split at h
   ·rename_i el hc
    split at h
    ·simp at h
    ·rename_i g r' hr
     simp only[zS,zP,zB] at h
     obtain ⟨⟨rfl,h2⟩,rfl⟩:=h
     simp only[OC,BT,hc,UI h2,KH hr]
   ·simp at h
theorem EG {f:List T→List T} {path:List (Nat × Nat)} {ps:List Pm} {cs:List T} {r:List Pm × List T} (h:Gv ps cs path=some (true,r)):If f ps cs path=BT ps cs path f:=by
 cases path with
 | nil=>rfl
 | cons ec path =>
   obtain ⟨e,c⟩:=ec
   simp only[Gv] at h
   split at h
   ·rename_i el hc
    split at h
    ·rename_i n cs' hcs
     simp only[If,BT,hc,hcs,KH h]
    ·simp at h
   ·simp at h
theorem UU {b:Option Bool} {y:Option β} (h:lC b y=some x):(b=none∨b=some true)∧y=some x:=by
 cases b with
 | none=>exact ⟨.inl rfl,h⟩
 | some b =>
   obtain ⟨rfl,h⟩:=Bz h
   exact ⟨.inr rfl,h⟩
theorem Gz {root s:AA} {pl:Aj} {hs:List T} {n:Nat} (h:JJ root pl hs n=some (true,s)):∃ p cs d el rcs,root.root=some (p,cs,d)∧rowAt p cs pl.path=some (el,rcs) ∧
  s=root.withRoot p (BT p cs pl.path fun rcs=>AF rcs (ix el.length pl.e pl.c) hs) ((G4 pl.path,pl.c,n)::d):=by
 unfold JJ at h
 split at h
 ·simp at h
 rename_i p cs d hroot
 split at h
 ·simp at h
 rename_i g el rcs hrow
 simp only[zS,zP] at h
 obtain ⟨rfl,rfl⟩:=h
 exact ⟨p,cs,d,el,rcs,hroot,Dz hrow,by rw[EG hrow]⟩
theorem S1 {g ty:Nat} {r:Ro} {b:Option Bool} {v:V} {us:List (Nat × AA)} (h:VX E g ty r=some (b,v,us)) (hb:b=none∨b=some true):MN E g ty r=some (v,us):=by
 unfold VX at h
 split at h
 ·rename_i t j pl root
  split at h
  ·split at h
   ·simp at h
   ·rename_i v' us' hr
    simp only[zS,zP] at h
    obtain ⟨-,rfl,rfl⟩:=h
    exact hr
  ·rename_i hpath
   split at h
   ·simp at h
   rename_i hn
   split at h
   ·rename_i gg v' hr
    split at h
    ·simp at h
    rename_i hf
    split at h
    ·simp at h
    rename_i hno
    split at h
    ·simp at h
    rename_i hs hh
    split at h
    ·simp at h
    rename_i g2 s hrow
    simp only[zS,zP] at h
    obtain ⟨rfl,rfl,rfl⟩:=h
    simp only[reduceCtorEq,zS,zB,false_or] at hb
    obtain ⟨rfl,rfl⟩:=hb
    obtain ⟨p,cs,d,el,rcs,h1,h2,rfl⟩:=Gz hrow
    unfold MN
    rw[Gf hr]
    simp only[hf,hno,Bool.not_true,Bool.false_eq_true,if_false]
    cases hpl:pl.path with
    | nil=>exact absurd hpl hpath
    | cons a b =>
      rw[hpl] at h2
      simp only[hn,Bool.false_eq_true,if_false,h1,h2,hh,hpl]
   ·simp at h
 ·split at h
  ·simp at h
  ·rename_i v' us' hr
   simp only[zS,zP] at h
   obtain ⟨-,rfl,rfl⟩:=h
   exact hr
theorem cE {a b:Option Bool} (h:bi a b=none∨bi a b=some true):(a=none∨a=some true)∧(b=none∨b=some true):=by
 cases a <;>cases b <;>simp_all [bi]
theorem Hx {g:Nat} {tys:Nat→Option Nat}:∀ {l:List (Nat × Ro)} {b:Option Bool} {vs:List (Nat × V)} {us:List (Nat × AA)},Gs E g tys l=some (b,vs,us)→(b=none∨b=some true)→EX E g tys l=some (vs,us)
 | [],b,vs,us,h,_=>by
   simp only[Gs,zS,zP] at h
   obtain ⟨-,rfl,rfl⟩:=h;rfl
 | (i,r)::l,b,vs,us,h,hb=>by
   simp only[Gs] at h
   split at h
   ·simp at h
   rename_i ty hty
   split at h
   ·simp at h
   rename_i gg v u h1
   split at h
   ·simp at h
   rename_i g2 vs' us' h2
   simp only[zS,zP] at h
   obtain ⟨rfl,rfl,rfl⟩:=h
   obtain ⟨q1,q2⟩:=cE hb
   simp only[EX,hty,S1 h1 q1,Hx h2 q2]
theorem ME {g t len:Nat} {parts:List (Nat × Ro)} (h:Ja E g o t len parts k=some x):∃ out,Eu E g o t len parts=some out∧k out true=some x:=by
 unfold Ja at h
 split at h
 ·rename_i d hd
  split at h
  ·rename_i e hk
   split at h
   ·simp at h
   rename_i de hde
   split at h
   ·rename_i hb
    split at h
    ·simp at h
    rename_i gg vs us h1
    split at h
    ·simp at h
    rename_i cs hf
    split at h
    ·rename_i hnd
     obtain ⟨hg,h⟩:=UU h
     unfold Eu
     simp only[hd,hk,hde]
     exact ⟨_,by rw[if_pos hb,Hx h1 hg];simp only[hf];rw[if_pos hnd],h⟩
    ·simp at h
   ·simp at h
  ·simp at h
 ·simp at h
theorem Nu {t1:Nat} {s:Ro} {b:Option Bool} {r:Nat × List T × List Pm × List (Nat × AA)} (h:M0 E t1 s=some (b,r)) (hb:b=none∨b=some true):Gw E t1 s=some r:=by
 unfold M0 at h
 split at h
 ·rename_i t j pl root
  split at h
  ·split at h
   ·simp at h
   ·rename_i r' hr
    simp only[zS,zP] at h
    rw[hr,h.2]
  ·rename_i hpath
   split at h
   ·simp at h
   rename_i hpin
   split at h
   ·rename_i gg el n cs hr
    split at h
    ·simp at h
    rename_i g2 s hrow
    simp only[zS,zP] at h
    obtain ⟨rfl,rfl⟩:=h
    simp only[reduceCtorEq,zS,zB,false_or] at hb
    obtain ⟨rfl,rfl⟩:=hb
    obtain ⟨p,cs',d,el2,rcs,h1,h2,rfl⟩:=Gz hrow
    unfold Gw
    rw[Gf hr]
    simp only[hpin,Bool.false_eq_true,if_false,h1]
    cases hpl:pl.path with
    | nil=>exact absurd hpl hpath
    | cons a b =>
      rw[hpl] at h2
      simp only[h2,hpl]
   ·simp at h
 ·split at h
  ·simp at h
  ·rename_i r' hr
   simp only[zS,zP] at h
   rw[hr,h.2]
theorem Nn {g t2:Nat} {y:Ro} {r:Nat × List T × List Pm × List (Nat × AA)} (h:Ms E g t2 y=some (true,r)):Gy E g t2 y=some r:=by
 unfold Ms at h
 split at h
 ·split at h
  ·split at h
   ·simp at h
   ·rename_i r' hr
    simp only[zS,zP,true_and] at h
    rw[hr,h]
  ·split at h
   ·rename_i gg fl el m cs hr
    split at h
    ·rename_i hc
     split at h
     ·rename_i hn
      simp only[zS,zP] at h
      obtain ⟨rfl,rfl⟩:=h
      unfold Gy
      rw[Gf hr]
      simp only
      rw[if_pos hc,if_pos hn]
     ·simp at h
    ·simp at h
   ·simp at h
 ·split at h
  ·simp at h
  ·rename_i r' hr
   simp only[zS,zP,true_and] at h
   rw[hr,h]
theorem QO {g t1 t2:Nat} {s y:Ro} (h:Sg E g o t1 t2 s y k=some x):∃ out,JP E g o t1 t2 s y=some out∧k out true=some x:=by
 unfold Sg at h
 split at h
 ·rename_i d hd
  split at h
  ·rename_i e hk
   split at h
   ·simp at h
   rename_i de hde
   split at h
   ·simp at h
   rename_i g1 n cs el us h1
   split at h
   ·simp at h
   rename_i gg m cs' el' us' h2
   split at h
   ·simp at h
   rename_i hst
   simp only[zB] at hst
   obtain ⟨hg1,h⟩:=UU h
   have h1:=Nu h1 hg1
   obtain ⟨hb,h9⟩:=Bz h
   simp only[zB] at hb
   obtain ⟨rfl,hb⟩:=hb
   have h2:=Nn h2
   unfold JP
   simp only[hd,hk,hde,h1,h2]
   exact ⟨_,by rw[if_pos (by simp only[zB];exact ⟨⟨⟨⟨hst.1.1.1,hst.1.1.2⟩,hb⟩,hst.1.2⟩,hst.2⟩)],h9⟩
  ·simp at h
 ·simp at h
theorem S2 {g t:Nat} {r y:Ro} (h:WO E g t r y k=some x):∃ out row,HR E g t r y=some (out,row)∧(if row then k ⟨out.ups,some (g+1)⟩ true else k out true)=some x:=by
 unfold WO at h
 split at h
 ·simp at h
 rename_i j pl root hp
 split at h
 ·split at h
  ·simp at h
  ·rename_i out row hs
   exact ⟨out,row,hs,h⟩
 ·rename_i path hpath
  split at h
  ·simp at h
  rename_i d hd
  split at h
  ·simp at h
  rename_i p cs dd hr
  split at h
  ·simp at h
  rename_i v us ht
  split at h
  ·simp at h
  rename_i gg el rcs hrow
  split at h
  ·simp at h
  rename_i q hq
  split at h
  ·simp at h
  rename_i hst
  simp only[zB,beq_iff_eq] at hst
  obtain ⟨⟨⟨s1,s2⟩,s3⟩,s4⟩:=hst
  obtain ⟨hb,h'⟩:=Bz h
  clear h
  simp only[zB,Nat.ble_eq] at hb
  obtain ⟨rfl,hb⟩:=hb
  have hrow' :=Dz hrow
  unfold HR
  simp only[hd,hp,hr,ht,hrow',hq,J6 hb]
  rw[if_pos ⟨s1,s2⟩]
  have hset:=EG (f:=fun rcs=>AF rcs (ix el.length pl.e pl.c) v.cs) hrow
  cases hpl:pl.path with
  | nil=>exact absurd hpl hpath
  | cons a b =>
    refine ⟨_,true,by rw[if_pos s3],?_⟩
    simp only[if_true]
    rw[hset,hpl] at h'
    exact h'
theorem QZ {r:Ro} {old:AA} (h:S8 E o r old k=some x):∃ out,F2 E o r old=some out∧k out false=some x:=by
 unfold S8 at h
 split at h
 ·rename_i t j pl root
  split at h
  ·exact Dk h
  ·rename_i hpath
   split at h
   ·simp at h
   rename_i hold
   split at h
   ·simp at h
   rename_i dst hd
   split at h
   ·simp at h
   rename_i htd
   split at h
   ·simp at h
   rename_i hjd
   split at h
   ·rename_i a p cs d pin
    split at h
    ·simp at h
    rename_i hps
    split at h
    ·simp at h
    rename_i hn
    split at h
    ·simp at h
    rename_i ks hks
    split at h
    ·simp at h
    rename_i g v hv
    split at h
    ·simp at h
    rename_i gg el rcs hrow
    split at h
    ·simp at h
    rename_i hs hh
    obtain ⟨hb,h'⟩:=Bz h
    clear h
    simp only[zB] at hb
    obtain ⟨rfl,rfl⟩:=hb
    have hset:=EG (f:=fun rcs=>AF rcs (ix el.length pl.e pl.c) hs) hrow
    rw[hset] at h'
    refine ⟨_,?_,h'⟩
    unfold F2
    rw[if_neg hold]
    simp only[hd]
    rw[if_neg htd,if_neg hjd,if_neg hps]
    cases hpl:pl.path with
    | nil=>exact absurd hpl hpath
    | cons a b =>
      rw[if_neg hn,C5 hv]
      have hrow' :=Dz hrow
      rw[hpl] at hrow'
      simp only[hrow',hh]
   ·rename_i p cs d pin
    split at h
    ·simp at h
    rename_i hps
    split at h
    ·simp at h
    rename_i hn
    split at h
    ·simp at h
    rename_i ks hks
    split at h
    ·simp at h
    rename_i g v hv
    split at h
    ·simp at h
    rename_i gg el rcs hrow
    split at h
    ·simp at h
    rename_i hs hh
    obtain ⟨hb,h'⟩:=Bz h
    clear h
    simp only[zB] at hb
    obtain ⟨rfl,rfl⟩:=hb
    have hset:=EG (f:=fun rcs=>AF rcs (ix el.length pl.e pl.c) hs) hrow
    rw[hset] at h'
    refine ⟨_,?_,h'⟩
    unfold F2
    rw[if_neg hold]
    simp only[hd]
    rw[if_neg htd,if_neg hjd,if_neg hps]
    cases hpl:pl.path with
    | nil=>exact absurd hpl hpath
    | cons a b =>
      rw[if_neg hn,C5 hv]
      have hrow' :=Dz hrow
      rw[hpl] at hrow'
      simp only[hrow',hh]
   ·simp at h
 ·exact Dk h
theorem P7 {g src dst:Nat} {r:Ro} (h:Ox E g o src dst r k=some x):∃ out,H3 E g o src dst r=some out∧k out true=some x:=by
 unfold Ox at h
 split at h
 ·simp at h
 rename_i d hd
 obtain ⟨v,h1,h⟩:=Gd h
 unfold H3
 split at h
 ·rename_i u
  simp only[hd,h1]
  split at h
  ·rename_i hl
   obtain ⟨t,h2,h⟩:=T0 h
   exact ⟨_,by rw[if_pos hl,h2,EZ],h⟩
  ·simp at h
 ·rename_i fl n cs
  simp only[hd,h1]
  split at h
  ·rename_i hl
   split at h
   ·rename_i hk
    obtain ⟨bs,h2,h⟩:=Dy h
    refine ⟨_,?_,h⟩
    rw[if_pos hl]
    simp only[hk,h2,EZ]
   ·simp at h
  ·simp at h
 ·simp at h
end
def BJ.CfOk (O:BJ) (cf:Nat→List Ae→Option Ec):Prop :=
 ∀ (β:Type) (f:Nat) (as:List Ae) (k:Ec→Option β) (x:β),O.cf f as k=some x→∃ r,cf f as=some r∧k r=some x
theorem IQ {E:A4}:∀ {tys:List Nat} {rs:List Ro} {os:List (Option V)},Tp E tys rs=some (true,os)→IX E tys rs=LU os∧(∀ ms,ms.length=tys.length→Cq E ms tys rs=La ms os)
 | [],rs,os,h=>by
   simp only[Tp,zS,zP,true_and] at h
   subst h
   refine ⟨rfl,fun ms hm => ?_⟩
   have:ms=[]:=length_eq_zero_iff.1 hm
   subst this;cases rs <;>rfl
 | ty::tys,[],os,h=>by
   simp only[Tp,zS,zP,true_and] at h
   subst h
   refine ⟨rfl,fun ms hm => ?_⟩
   cases ms with
   | nil=>rfl
   | cons m ms=>cases m <;>rfl
 | ty::tys,r::rs,os,h=>by
   simp only[Tp] at h
   split at h
   ·simp at h
   rename_i g o ho
   split at h
   ·simp at h
   rename_i g' os' hos
   simp only[zS,zP,zB] at h
   obtain ⟨⟨rfl,rfl⟩,rfl⟩:=h
   obtain ⟨h1,h2⟩:=IQ hos
   have hr:=Gf ho
   refine ⟨by simp only[IX,LU,hr,h1];cases o <;>rfl,fun ms hm => ?_⟩
   cases ms with
   | nil=>simp at hm
   | cons m ms =>
     have h3:=h2 ms (by simpa using hm)
     cases m with
     | val=>simp only[Cq,La,hr,h3];cases o <;>rfl
     | io=>simp only[Cq,La,h3]
     | iop=>simp only[Cq,La,h3]
theorem S4 {E:A4} {gm:Option Nat} {m:DG} {ty:Nat} {r:Ro} {o:Option V} {a:Ae} {ks:List (Nat × Aj)} (hr:Ax E ty r=o) (h:V3 E gm m ty r o=some (true,a,ks)):Ej E gm m ty r=some (a,ks):=by
 have key:∀ m,(match Ej E gm m ty r with | none=>none | some (a,ks)=>some (true,a,ks))=some (true,a,ks)→Ej E gm m ty r=some (a,ks):=by
  intro m h
  split at h
  ·simp at h
  ·rename_i a' ks' hm
   simp only[zS,zP,true_and] at h
   obtain ⟨rfl,rfl⟩:=h
   exact hm
 unfold V3 at h
 split at h
 ·split at h
  ·rename_i v
   simp only[zS,zP,true_and] at h
   obtain ⟨rfl,rfl⟩:=h
   simp only[Ej,hr]
  ·split at h
   ·rename_i t j pl root
    split at h
    ·exact key .val h
    ·split at h
     ·simp at h
     split at h
     ·split at h
      ·simp at h
      split at h
      ·simp at h
      rename_i p cs dd hroot
      split at h
      ·simp at h
      rename_i hst
      split at h
      ·simp at h
      rename_i g v hat
      split at h
      ·simp at h
      rename_i hn
      simp only[zS,zP] at h
      obtain ⟨rfl,rfl,rfl⟩:=h
      have hp:CE (.slot t (.ptr j pl) root)=some (j,pl,root):=by
       simp only[CE,hroot,hst,Bool.false_eq_true,if_false]
      simp only[Ej,hr,hp,hroot,C5 hat,hn,Bool.false_eq_true,if_false]
     ·simp at h
   ·exact key .val h
 ·split at h
  ·simp at h
  rename_i k pl root hio
  split at h
  ·exact key .io h
  ·rename_i hpath
   split at h
   ·simp at h
   rename_i p cs d hroot
   split at h
   ·simp at h
   rename_i hst
   split at h
   ·simp at h
   split at h
   ·simp at h
   rename_i g v hat
   split at h
   ·rename_i hnl
    simp only[zS,zP] at h
    obtain ⟨rfl,rfl,rfl⟩:=h
    simp only[Bool.or_eq_false_iff] at hst
    have hpe:pl.path.isEmpty=false:=by
     cases hpp:pl.path with
     | nil=>exact absurd hpp hpath
     | cons=>rfl
    simp only[Ej,hio,hroot,hst.1,hst.2,hpe,Bool.false_and,Bool.or_false,Bool.false_eq_true,if_false,C5 hat,hnl,if_true]
   ·simp at h
 ·exact key _ h
theorem Pe {a:Ae} {pl:Aj} {root s:AA} {v:V} (h:Ps a pl root v=some (true,s)):EM a pl root v=some s:=by
 unfold Ps at h
 split at h
 ·split at h
  ·simp at h
  ·rename_i s' hs
   simp only[zS,zP,true_and] at h
   rw[hs,h]
 ·rename_i hpath
  split at h
  ·rename_i hm
   split at h
   ·simp at h
   rename_i p cs d hroot
   split at h
   ·rename_i hc
    split at h
    ·simp at h
    rename_i hdd
    split at h
    ·simp at h
    rename_i hs hh
    obtain ⟨p',cs',d',el,rcs,h1,h2,rfl⟩:=Gz h
    rw[hroot] at h1
    obtain ⟨rfl,rfl,rfl⟩:p=p'∧cs=cs'∧d=d' :=by simpa using h1
    simp only[EM,hroot,hm,hc,Bool.false_eq_true,if_false,hdd,if_true]
    cases hpl:pl.path with
    | nil=>exact absurd hpl hpath
    | cons a b =>
      rw[hpl] at h2
      simp only[h2,hh]
   rename_i hc
   split at h
   ·simp at h
   rename_i g el rcs hrow
   simp only[zS,zP] at h
   obtain ⟨rfl,rfl⟩:=h
   simp only[EM,hroot,hm,hc,if_true]
   have hr:=Dz hrow
   split
   ·rename_i hpp;rw[hr] at hpp;simp at hpp
   ·rename_i hpp
    rw[hr] at hpp
    simp only[zS,zP] at hpp
    obtain ⟨rfl,rfl⟩:=hpp
    rw[EG hrow]
  ·simp at h
theorem F6 {roots:Nat→AA}:∀ {as:List Ae} {ks:List (Nat × Aj)} {vs:List V} {us:List (Nat × AA)},EW roots as ks vs=some (true,us)→EB roots as ks vs=some us
 | [],[],[],us,h=>by simp only[EW,zS,zP,true_and] at h;rw[← h];rfl
 | [],_::_,_,us,h=>by simp[EW] at h
 | [],[],_::_,us,h=>by simp[EW] at h
 | a::as,ks,vs,us,h=>by
   simp only[EW] at h
   simp only[EB]
   split at h
   ·rename_i hm
    simp only[hm]
    exact F6 h
   ·rename_i hm
    split at h
    ·rename_i k pl ks v vs
     split at h
     ·simp at h
     rename_i g s hs
     split at h
     ·simp at h
     rename_i g' us' hus
     simp only[zS,zP,zB] at h
     obtain ⟨⟨rfl,rfl⟩,rfl⟩:=h
     split
     ·rename_i e;exact absurd e hm
     ·simp only[Pe hs,F6 hus]
    ·simp at h
theorem FY {E:A4} {gm:Option Nat}:∀ {ms:List DG} {tys:List Nat} {rs:List Ro} {os:List (Option V)} {as:List Ae} {ks:List (Nat × Aj)},Tp E tys rs=some (true,os)→E9 E gm ms tys rs os=some (true,as,ks)→Ct E gm ms tys rs=some (as,ks)
 | [],[],[],os,as,ks,_,h=>by
   simp only[E9,zS,zP,true_and] at h
   obtain ⟨rfl,rfl⟩:=h;rfl
 | [],[],_::_,os,as,ks,_,h=>by simp[E9] at h
 | [],_::_,_,os,as,ks,_,h=>by simp[E9] at h
 | _::_,[],_,os,as,ks,_,h=>by simp[E9] at h
 | _::_,_::_,[],os,as,ks,_,h=>by simp[E9] at h
 | m::ms,ty::tys,r::rs,os,as,ks,hr,h=>by
   simp only[Tp] at hr
   split at hr
   ·simp at hr
   rename_i g o ho
   split at hr
   ·simp at hr
   rename_i g' os' hos
   simp only[zS,zP,zB] at hr
   obtain ⟨⟨rfl,rfl⟩,rfl⟩:=hr
   simp only[E9] at h
   split at h
   ·simp at h
   rename_i g1 a ks1 h1
   split at h
   ·simp at h
   rename_i g2 as2 ks2 h2
   simp only[zS,zP,zB] at h
   obtain ⟨⟨rfl,rfl⟩,rfl,rfl⟩:=h
   simp only[Ct,S4 (Gf ho) h1,FY hos h2]
theorem LF {E:A4} {gm:Option Nat}:∀ {ms:List DG} {tys:List Nat} {rs:List Ro} {x},Ct E gm ms tys rs=some x→ms.length=tys.length
 | [],[],rs,x,_=>rfl
 | [],_::_,rs,x,h=>by simp[Ct] at h
 | _::_,[],rs,x,h=>by simp[Ct] at h
 | _::_,_::_,[],x,h=>by simp[Ct] at h
 | m::ms,ty::tys,r::rs,x,h=>by
   simp only[Ct] at h
   split at h
   ·simp at h
   ·split at h
    ·simp at h
    ·rename_i h2
     simp[LF h2]
section
variable {β:Type} {E:A4} {O:BJ} {cf:Nat→List Ae→Option Ec} {o:Oper} {k:Cw→Bool→Option β} {x:β}
theorem JF (hO:O.CfOk cf) {f:Nat} {tys:List Nat} {rs:List Ro} {g:Nat} (h:UM E O o f tys rs g k=some x):∃ out u,FK E cf o f tys rs g=some (out,u)∧k out u=some x:=by
 unfold UM at h
 split at h
 ·simp at h
 rename_i fd hfd
 split at h
 ·simp at h
 rename_i g0 os hos
 unfold FK
 simp only[hfd]
 split at h
 ·rename_i hall
  rw[if_pos hall]
  split at h
  ·rename_i hnl
   split at h
   ·simp at h
   rename_i g1 as ks hm
   obtain ⟨hg0,h'⟩:=Bz h
   obtain ⟨hg1,h''⟩:=Bz h'
   clear h h'
   subst hg0 hg1
   obtain ⟨r,hr,h⟩:=hO _ _ _ _ _ h''
   obtain ⟨e1,e2⟩:=IQ hos
   have hm' :=FY hos hm
   rw[if_pos (e1.trans hnl),hm']
   simp only[hr]
   rw[e2 _ (LF hm')]
   split at h
   ·rename_i hok
    exact ⟨_,_,by rw[if_pos hok],h⟩
   ·simp at h
  ·rename_i hnl
   split at h
   ·simp at h
   rename_i g1 as ks hm
   obtain ⟨hg0,h'⟩:=Bz h
   obtain ⟨hg1,h''⟩:=Bz h'
   clear h h'
   subst hg0 hg1
   obtain ⟨r,hr,h⟩:=hO _ _ _ _ _ h''
   obtain ⟨e1,e2⟩:=IQ hos
   have hm' :=FY hos hm
   rw[if_neg (by rw[e1];exact hnl),hm']
   simp only[hr]
   split at h
   ·rename_i hok
    exact ⟨_,_,by rw[if_pos hok],h⟩
   ·simp at h
 ·rename_i hall
  rw[if_neg hall]
  split at h
  ·simp at h
  rename_i g1 as ks hm
  split at h
  ·rename_i hks
   obtain ⟨hg0,h'⟩:=Bz h
   obtain ⟨hg1,h''⟩:=Bz h'
   clear h h'
   subst hg0 hg1
   obtain ⟨r,hr,h⟩:=hO _ _ _ _ _ h''
   obtain ⟨e1,e2⟩:=IQ hos
   have hm' :=FY hos hm
   rw[hm']
   simp only
   rw[if_pos hks]
   simp only[hr]
   rw[e2 _ (LF hm')]
   split at h
   ·rename_i hok
    rw[if_pos hok]
    split at h
    ·simp at h
    ·rename_i g2 us hus
     obtain ⟨hg2,h'''⟩:=Bz h
     clear h
     subst hg2
     split at h'''
     ·rename_i hnd
      simp only[F6 hus]
      exact ⟨_,_,by rw[if_pos hnd],h'''⟩
     ·simp at h'''
   ·simp at h
  ·simp at h
theorem Hc {β:Type} {x:β}:∀ {tys:List Nat} {rs:List Ro} {k:List T→Option β},Ij E tys rs k=some x→∃ ts,F3 E tys rs=some ts∧k ts=some x
 | [],[],k,h=>⟨[],rfl,h⟩
 | [],_::_,k,h=>by simp[Ij] at h
 | _::_,[],k,h=>by simp[Ij] at h
 | ty::tys,r::rs,k,h=>by
   simp only[Ij] at h
   obtain ⟨t,h1,h⟩:=Bn h
   obtain ⟨ts,h2,h⟩:=Hc h
   exact ⟨t::ts,by simp only[F3,h1,h2],h⟩
theorem Su {cf:Nat→List Ae→Option Ec} {rs:List Ro} {old:AA} {g:Nat} (h:∀ c,o.op ≠ .call c):Be E cf o rs old g=Be E (fun _ _=>none) o rs old g:=by
 unfold Be
 split <;>first | rfl | (rename_i c _ e;exact absurd e (h c)) | (rename_i c e;exact absurd e (h c))
theorem YF (hO:O.CfOk cf) {rs:List Ro} {old:AA} {g:Nat} (h:lW E O o rs old g k=some x):∃ out u,Be E cf o rs old g=some (out,u)∧k out u=some x:=by
 unfold lW at h
 split at h
 ·rename_i a1 a2 a3 c y z hop
  obtain ⟨t,h1,h⟩:=Bn h
  split at h
  ·rename_i b
   rcases SV h with ⟨rfl,h⟩ | ⟨rfl,h⟩
   ·obtain ⟨out,h2,h⟩:=Dk h
    exact ⟨out,false,by unfold Be;simp only[hop,h1,h2],h⟩
   ·obtain ⟨out,h2,h⟩:=Dk h
    exact ⟨out,false,by unfold Be;simp only[hop,h1,h2],h⟩
  ·simp at h
 ·rename_i t a1 r hop
  obtain ⟨out,h2,h⟩:=TS h
  exact ⟨out,false,by unfold Be;simp only[hop,h2],h⟩
 ·rename_i a1 r hop
  obtain ⟨out,h2,h⟩:=QZ h
  exact ⟨out,false,by unfold Be;simp only[hop,h2],h⟩
 ·rename_i t len parts hop
  obtain ⟨out,h2,h⟩:=ME h
  exact ⟨out,true,by unfold Be;simp only[hop,h2],h⟩
 ·rename_i t a1 a2 r y hop
  split at h
  ·simp at h
  ·rename_i hd
   obtain ⟨out,row,h2,h⟩:=S2 h
   split at h
   ·rename_i hrow
    exact ⟨_,_,by unfold Be;simp only[hop,h2];rw[if_neg hd];simp only[hrow,if_true],h⟩
   ·rename_i hrow
    exact ⟨_,_,by unfold Be;simp only[hop,h2];rw[if_neg hd,if_neg hrow],h⟩
 ·rename_i op xt a1 a2 yt y z hop
  obtain ⟨u,h1,h⟩:=Bn h
  obtain ⟨v,h2,h⟩:=Bn h
  split at h
  ·rename_i hb
   split at h
   ·simp at h
   ·rename_i gg t ht
    obtain ⟨rfl,h⟩:=Bz h
    refine ⟨_,_,?_,h⟩
    unfold Be
    simp only[hop,h1,h2,VS ht,EZ]
    rw[if_pos hb]
  ·simp at h
 ·rename_i op xt a1 y hop
  obtain ⟨u,h1,h⟩:=Bn h
  split at h
  ·simp at h
  ·rename_i t ht
   exact ⟨_,_,by unfold Be;simp only[hop,h1,ht,EZ],h⟩
 ·rename_i src dst a1 y hop
  obtain ⟨out,h2,h⟩:=P7 h
  exact ⟨out,true,by unfold Be;simp only[hop,h2],h⟩
 ·rename_i t l c y z hop
  split at h
  ·rename_i hs
   obtain ⟨out,h2,h⟩:=Mu h
   exact ⟨out,false,by unfold Be;simp only[hop,h2];rw[if_pos hs],h⟩
  ·simp at h
 ·rename_i t a1 lo hi r rs hop
  split at h
  ·obtain ⟨out,h2,h⟩:=GR h
   exact ⟨out,true,by unfold Be;simp only[hop,h2],h⟩
  ·obtain ⟨out,h2,h⟩:=GR h
   exact ⟨out,true,by unfold Be;simp only[hop,h2],h⟩
  ·obtain ⟨out,h2,h⟩:=GR h
   exact ⟨out,true,by unfold Be;simp only[hop,h2],h⟩
  ·obtain ⟨out,h2,h⟩:=GR h
   exact ⟨out,true,by unfold Be;simp only[hop,h2],h⟩
  ·simp at h
 ·rename_i s a1 f r hop
  obtain ⟨out,h2,h⟩:=Rj h
  exact ⟨out,false,by unfold Be;simp only[hop,h2],h⟩
 ·rename_i t a1 a2 r i hop
  obtain ⟨out,h2,h⟩:=Ml h
  exact ⟨out,true,by unfold Be;simp only[hop,h2],h⟩
 ·rename_i t a1 a2 r i hop
  obtain ⟨out,h2,h⟩:=Rz h
  exact ⟨out,false,by unfold Be;simp only[hop,h2],h⟩
 ·rename_i c rs hop
  split at h
  ·rename_i b hc
   split at h
   ·rename_i t r hty
    obtain ⟨out,h2,h⟩:=Vv h
    exact ⟨out,true,by unfold Be;simp only[hop,hc,hty,h2],h⟩
   ·rename_i t1 t2 s y hty
    obtain ⟨out,h2,h⟩:=QO h
    exact ⟨out,true,by unfold Be;simp only[hop,hc,hty,h2],h⟩
   ·obtain ⟨ts,h2,h⟩:=Hc h
    split at h
    ·rename_i t ts
     split at h
     ·simp at h
     ·rename_i r hr
      exact ⟨_,_,by unfold Be;simp only[hop,hc,h2,G3 hr,EZ],h⟩
    ·simp at h
   ·obtain ⟨ts,h2,h⟩:=Hc h
    split at h
    ·rename_i t ts
     split at h
     ·simp at h
     ·rename_i r hr
      exact ⟨_,_,by unfold Be;simp only[hop,hc,h2,G3 hr,EZ],h⟩
    ·simp at h
   ·simp at h
  ·rename_i f hc
   obtain ⟨out,u,h2,h⟩:=JF hO h
   exact ⟨out,u,by unfold Be;simp only[hop,hc,h2],h⟩
  ·rename_i X hX hc
   split at h
   ·obtain ⟨out,u,h2,h⟩:=JF hO h
    refine ⟨out,u,?_,h⟩
    unfold Be
    cases X with
    | func f=>exact absurd rfl (hX f)
    | _=>simp only[hop,hc,h2]
   ·obtain ⟨out,u,h2,h⟩:=JF hO h
    refine ⟨out,u,?_,h⟩
    unfold Be
    cases X with
    | func f=>exact absurd rfl (hX f)
    | _=>simp only[hop,hc,h2]
   ·simp at h
  ·simp at h
 ·unfold fall at h
  split at h
  ·simp at h
  ·rename_i out u hr
   refine ⟨out,u,?_,h⟩
   rw[Su]
   ·exact hr
   ·intro c hc
    simp_all
end
section
variable {β:Type} {E:A4} {O:BJ} {cf:Nat→List Ae→Option Ec} {o:Oper} {x:β}
theorem Vb (hO:O.CfOk cf) {ops:Array Oper} {f:List Nat} {σ:AS} {k:Fi→Option β} (hg:HT ops σ.env o=some (true,f)) (h:fX E O o f σ k=some x):∃ st,Dp E cf ops o σ=some st∧k st=some x:=by
 unfold fX at h
 obtain ⟨out,u,h1,h⟩:=YF hO h
 split at h
 ·rename_i hfr
  refine ⟨_,?_,h⟩
  unfold Dp
  simp only[hg,h1]
  rw[if_pos hfr]
  rfl
 ·simp at h
theorem Sx {a:Bool} {p:List Pm} {b:Bool} {dd:Ek} {pin:Nat}:∀ {env:List (Nat × AA)} {d:Nat},AO env d = .val a p [.bool b] dd pin→Zd env d b=env
 | [],d,h=>by simp[AO] at h
 | (j,s)::r,d,h=>by
   simp only[AO] at h
   simp only[Zd]
   split at h
   ·rename_i e
    subst e h
    simp[AA.withBool]
   ·rename_i e
    have:Nat.beq j d=false:=by
     cases hb:Nat.beq j d with
     | true=>exact absurd (by simpa using hb) e
     | false=>rfl
    rw[this]
    simp only[Sx h]
theorem VK {ops:Array Oper} {σ:AS} {k:AS→Option β} (h:ZQ ops o σ k=some x):k σ=some x:=by
 unfold ZQ at h
 split at h
 ·exact h
 ·split at h
  ·simp at h
  split at h
  ·rename_i b _ _ hget
   rcases SV h with ⟨rfl,h⟩ | ⟨rfl,h⟩
   ·rw[Sx hget] at h;exact h
   ·rw[Sx hget] at h;exact h
  ·exact h
theorem UK (hO:O.CfOk cf) {ops:Array Oper} {σ:AS} {k:Fi→Option β} (h:ZT E O ops o σ k=some x):∃ st,Dp E cf ops o σ=some st∧k st=some x:=by
 unfold ZT at h
 split at h
 ·simp at h
 ·rename_i f hg
  exact Vb hO hg h
 ·rename_i f hg
  refine ⟨_,?_,h⟩
  unfold Dp
  simp only[hg]
theorem KY (hO:O.CfOk cf) {ops:Array Oper}:∀ {l:List Oper} {σ:AS} {fs:List (List Nat × List Nat)} {k:AS→List (List Nat × List Nat)→Option β},Lu E O ops l σ fs k=some x →
  ∃ σ' fs',JN E cf ops l σ=some (σ',fs')∧k σ' (fs.reverse++fs')=some x
 | [],σ,fs,k,h=>⟨σ,[],rfl,by simpa [Lu] using h⟩
 | o::l,σ,fs,k,h=>by
   simp only[Lu] at h
   obtain ⟨st,h1,h⟩:=UK hO (VK h)
   obtain ⟨σ',fs',h2,h⟩:=KY hO h
   refine ⟨σ',(st.foot,st.writes)::fs',by simp only[JN,h1,h2],?_⟩
   simpa using h
def KC (O:BJ) (E:A4) (cf:Nat→List Ae→Option Ec) (n:Nat) (keep:List (Nat × List Nat)):Code→Prop
 | .loop body=>∀ (β:Type) (σ:AS) (k:Ex→AS→Option β) (x:β),O.lp (dY body) (settle (CJ keep (Cr body)) σ) k=some x →
    ∃ ex σ',Ao E cf n keep (.loop body) σ=some (ex,σ')∧k ex σ'=some x
 | .seq a b=>KC O E cf n keep a∧KC O E cf n keep b
 | .cond _ a b=>KC O E cf n keep a∧KC O E cf n keep b
 | .block _ a=>KC O E cf n keep a
 | _=>True
theorem Na (hO:O.CfOk cf) {n:Nat} {keep:List (Nat × List Nat)}:∀ {c:Code} {σ:AS} {k:Ex→AS→Option β},KC O E cf n keep c→Gu E O keep c σ k=some x →
  ∃ ex σ',Ao E cf n keep c σ=some (ex,σ')∧k ex σ'=some x:=by
 intro c
 induction c with
 | skip=>intro σ k _ h;exact ⟨_,_,rfl,h⟩
 | region id ops draw =>
   intro σ k _ h
   simp only[Gu,rg] at h
   obtain ⟨σ',fs',h1,h⟩:=KY hO h
   split at h
   ·rename_i hr
    refine ⟨_,_,?_,h⟩
    simp only[Ao,NA,h1]
    rw[if_pos (by simpa using hr)]
   ·simp at h
 | seq a b iha ihb =>
   intro σ k hl h
   simp only[Gu] at h
   obtain ⟨ex,σ',h1,h⟩:=iha hl.1 h
   cases ex with
   | normal =>
     obtain ⟨ex2,σ2,h2,h⟩:=ihb hl.2 h
     exact ⟨ex2,σ2,by simp only[Ao,h1,h2],h⟩
   | exit id=>exact ⟨_,_,by simp only[Ao,h1],h⟩
   | ret=>exact ⟨_,_,by simp only[Ao,h1],h⟩
 | cond c a b iha ihb =>
   intro σ k hl h
   simp only[Gu] at h
   obtain ⟨t,h1,h⟩:=Bn h
   split at h
   ·rename_i v
    rcases SV h with ⟨rfl,h⟩ | ⟨rfl,h⟩
    ·obtain ⟨ex,σ',h2,h⟩:=iha hl.1 h
     exact ⟨ex,σ',by simp only[Ao,h1,h2],h⟩
    ·obtain ⟨ex,σ',h2,h⟩:=ihb hl.2 h
     exact ⟨ex,σ',by simp only[Ao,h1,h2],h⟩
   ·simp at h
 | block id a iha =>
   intro σ k hl h
   simp only[Gu] at h
   obtain ⟨ex,σ',h1,h⟩:=iha hl h
   cases ex with
   | normal=>exact ⟨_,_,by simp only[Ao,h1],h⟩
   | exit id' =>
     simp only at h
     split at h
     ·rename_i e
      exact ⟨_,_,by simp only[Ao,h1];rw[if_pos e],h⟩
     ·rename_i e
      exact ⟨_,_,by simp only[Ao,h1];rw[if_neg e],h⟩
   | ret=>exact ⟨_,_,by simp only[Ao,h1],h⟩
 | loop a _ =>
   intro σ k hl h
   exact hl _ _ _ _ h
 | exit id=>intro σ k _ h;exact ⟨_,_,rfl,h⟩
 | ret=>intro σ k _ h;exact ⟨_,_,rfl,h⟩
 | _=>intro σ k _ h;simp[Gu] at h
theorem XV {V X:Type} {n:Nat} {keep:List (Nat × List Nat)} {body:Code} (enc:V→AS) (de:AS→Option V) (hde:∀ σ v,de σ=some v→σ=enc v) (L:Nat→V→Option X) (dec:Ex→AS→Option X)
  (hO:O.CfOk cf) (hl:KC O E cf n keep body) (h0:∀ v,L 0 v=none)
  (hs:∀ m v,L (m+1) v=Gu E O keep body (enc v) (fun ex σ'=>match ex with
    | .normal=>bd (de (settle (CJ keep (Cr body)) σ')) (L m)
    | .exit id=>dec (.exit id) (settle (CJ keep (Lq body)) σ')
    | .ret=>dec .ret (settle (CJ keep (Lq body)) σ'))) :
  ∀ m v x,L m v=some x→∃ ex σ',I4 (CJ keep (Lq body)) (L3 m (settle (CJ keep (Cr body))) (Ao E cf n keep body) (enc v))=some (ex,σ')∧dec ex σ'=some x:=by
 intro m
 induction m with
 | zero=>intro v x h;rw[h0] at h;simp at h
 | succ m ih =>
   intro v x h
   rw[hs] at h
   obtain ⟨ex,σ',h1,h⟩:=Na hO hl h
   cases ex with
   | normal =>
     obtain ⟨v',hv,h⟩:=Dy h
     obtain ⟨ex2,σ2,h2,h3⟩:=ih v' x h
     refine ⟨ex2,σ2,?_,h3⟩
     simp only[L3,h1,hde _ _ hv,h2]
   | exit id=>exact ⟨_,_,by simp only[L3,h1,I4],h⟩
   | ret=>exact ⟨_,_,by simp only[L3,h1,I4],h⟩
theorem XO {n f:Nat} {as:List Ae} {c:Code} {modes:List DG} {outs:List Nat} {results:List (Nat × Option (Bool × Nat))} {keep:List (Nat × List Nat)} {k:Ec→Option β} (hf:E.fn f=some (.code c modes outs results keep))
  (hO:O.CfOk (Ak E n)) (hl:KC O E (Ak E n) n keep c) (h:ko E O f as k=some x):∃ r,Ak E (n+1) f as=some r∧k r=some x:=by
 unfold ko at h
 simp only[hf] at h
 split at h
 ·rename_i hs
  obtain ⟨ex,σ',h1,h⟩:=Na hO hl h
  split at h
  ·simp at h
  ·rename_i r hr
   refine ⟨r,?_,h⟩
   simp only[Ak,hf,h1]
   rw[if_pos hs];exact hr
 ·simp at h
end
structure By (V:Type) where
 pk:V→List Bm
 up:List Bm→Option V
 ok:∀ ls v,up ls=some v→ls=pk v:=by intro _ _ h;split at h <;>cases h;rfl
def fB:Ex→Ex→Bool
 | .normal,.normal=>true
 | .exit a,.exit b=>Nat.beq a b
 | .ret,.ret=>true
 | _,_=>false
theorem bG {a b:Ex} (h:fB a b=true):a=b:=by
 cases a <;>cases b <;>simp[fB] at h <;>first | rfl | rw[h]
def sm {A B γ:Type} (x:A ⊕ B) (f:A→γ) (g:B→γ):γ:=match x with
 | .inl a=>f a
 | .inr b=>g b
structure D7 (X:Type) where
 dec:Ex→AS→Option X
 out : {β:Type}→X→(Ex→AS→Option β)→Option β
 ok:∀ ex σ x,dec ex σ=some x→∀ (β:Type) (k:Ex→AS→Option β),out x k=k ex σ
def D7.one {A:Type} (e:Ex) (P:AS) (S:By A):D7 A where
 dec:=fun ex σ=>match fB e ex with
  | true=>bd (QK P σ) S.up
  | false=>none
 out:=fun x k=>k e (Yl P (S.pk x))
 ok:=by
  intro ex σ x h β k
  split at h
  ·rename_i he
   obtain ⟨ls,h1,h2⟩:=Dy h
   rw[bG he,← S.ok _ _ h2,SS h1]
  ·simp at h
def D7.or {A B:Type} (a:D7 A) (b:D7 B):D7 (A ⊕ B) where
 dec:=fun ex σ=>match a.dec ex σ with
  | some x=>some (.inl x)
  | none=>match b.dec ex σ with
    | some y=>some (.inr y)
    | none=>none
 out:=fun x k=>sm x (fun x=>a.out x k) (fun y=>b.out y k)
 ok:=by
  intro ex σ x h β k
  split at h
  ·rename_i y hy
   simp only[zS] at h
   subst h
   exact a.ok _ _ _ hy _ _
  ·split at h
   ·rename_i y hy
    simp only[zS] at h
    subst h
    exact b.ok _ _ _ hy _ _
   ·simp at h
structure Aa (X:Type) where
 dec:Ec→Option X
 out : {β:Type}→X→(Ec→Option β)→Option β
 enc:X→Ec
 ok:∀ r x,dec r=some x→enc x=r
 ok':∀ x (β:Type) (k:Ec→Option β),out x k=k (enc x)
def Aa.one {A:Type} (P:Ec) (S:By A):Aa A where
 dec:=fun r=>bd (mf P r) S.up
 out:=fun x k=>k (km P (S.pk x))
 enc:=fun x=>km P (S.pk x)
 ok:=by
  intro r x h
  obtain ⟨ls,h1,h2⟩:=Dy h
  rw[← S.ok _ _ h2,dl h1]
 ok' :=fun _ _ _=>rfl
def Aa.or {A B:Type} (a:Aa A) (b:Aa B):Aa (A ⊕ B) where
 dec:=fun r=>match a.dec r with
  | some x=>some (.inl x)
  | none=>match b.dec r with
    | some y=>some (.inr y)
    | none=>none
 out:=fun x k=>sm x (fun x=>a.out x k) (fun y=>b.out y k)
 enc:=fun x=>sm x a.enc b.enc
 ok:=by
  intro r x h
  split at h
  ·rename_i y hy
   simp only[zS] at h
   subst h
   exact a.ok _ _ hy
  ·split at h
   ·rename_i y hy
    simp only[zS] at h
    subst h
    exact b.ok _ _ hy
   ·simp at h
 ok' :=by
  intro x β k
  cases x with
  | inl x=>exact a.ok' x β k
  | inr x=>exact b.ok' x β k
structure A7 (E:A4) where
 no:Nat
 fits:List Ae→Bool
 W : {β:Type}→Nat→List Ae→(Ec→Option β)→Option β
 ok:∀ n (β:Type) as (k:Ec→Option β) x,W n as k=some x→∃ r,Ak E n no as=some r∧k r=some x
def cy {E:A4} {β:Type}:List (A7 E)→Nat→Nat→List Ae→(Ec→Option β)→Option β
 | [],_,_,_,_=>none
 | w::ws,n,f,as,k=>match Nat.beq w.no f&&w.fits as with
   | true=>w.W n as k
   | false=>cy ws n f as k
structure ER where
 no:Nat
 W : {β:Type}→AS→(Ex→AS→Option β)→Option β
def iE {β:Type}:List ER→Nat→AS→(Ex→AS→Option β)→Option β
 | [],_,_,_=>none
 | w::ws,i,σ,k=>match Nat.beq w.no i with
   | true=>w.W σ k
   | false=>iE ws i σ k
def AK {E:A4} (fs:List (A7 E)) (ls:List ER) (n:Nat):BJ:=⟨fun f as k=>cy fs n f as k,fun i σ k=>iE ls i σ k⟩
theorem Ld {E:A4} (fs:List (A7 E)) (ls:List ER) (n:Nat):(AK fs ls n).CfOk (Ak E n):=by
 intro β f as k x h
 simp only[AK] at h
 induction fs with
 | nil=>simp[cy] at h
 | cons w ws ih =>
   simp only[cy] at h
   split at h
   ·rename_i e
    simp only[zB,Nat.beq_eq] at e
    obtain ⟨rfl,-⟩:=e
    exact w.ok n β as k x h
   ·exact ih h
def ER.of {V X:Type} (no:Nat) (P:AS) (S:By V) (A:D7 X) (F:V→Option X):ER:=⟨no,fun σ k=>bd (QK P σ) fun ls=>bd (S.up ls) fun v=>bd (F v) fun x=>A.out x k⟩
theorem c9 {E:A4} {O:BJ} {cf:Nat→List Ae→Option Ec} {V X:Type} {n:Nat} {keep:List (Nat × List Nat)} {body:Code} (P:AS) (S:By V) (A:D7 X) (L:Nat→V→Option X)
  (hO:O.CfOk cf) (hl:KC O E cf n keep body) (h0:∀ v,L 0 v=none)
  (hs:∀ m v,L (m+1) v=Gu E O keep body (Yl P (S.pk v)) (fun ex σ'=>match ex with
    | .normal=>bd (QK P (settle (CJ keep (Cr body)) σ')) fun ls=>bd (S.up ls) (L m)
    | .exit id=>A.dec (.exit id) (settle (CJ keep (Lq body)) σ')
    | .ret=>A.dec .ret (settle (CJ keep (Lq body)) σ')))
  (hW:∀ (β:Type) (σ:AS) (k:Ex→AS→Option β),O.lp (dY body) σ k=bd (QK P σ) fun ls=>bd (S.up ls) fun v=>bd (L n v) fun x=>A.out x k):KC O E cf n keep (.loop body):=by
 have hL:=XV (cf:=cf) (n:=n) (fun v=>Yl P (S.pk v)) (fun σ=>bd (QK P σ) S.up) (fun σ v h=>by
  obtain ⟨ls,h1,h2⟩:=Dy h
  rw[← S.ok _ _ h2,SS h1]) L A.dec hO hl h0 (fun m v=>by
   rw[hs]
   congr 1
   funext ex σ'
   cases ex with
   | normal =>
     simp only
     cases QK P (settle (CJ keep (Cr body)) σ') <;>rfl
   | _=>rfl)
 intro β σ k x h
 rw[hW] at h
 obtain ⟨ls,h1,h⟩:=Dy h
 obtain ⟨v,h2,h⟩:=Dy h
 obtain ⟨y,h3,h⟩:=Dy h
 obtain ⟨ex,σ',h4,h5⟩:=hL n v y h3
 rw[A.ok _ _ _ h5] at h
 refine ⟨ex,σ',?_,h⟩
 simp only[Ao]
 rw[← SS h1,S.ok _ _ h2,h4]
theorem ZP {O:BJ} {E:A4} {cf:Nat→List Ae→Option Ec} {n:Nat} {keep:List (Nat × List Nat)}:∀ {c:Code},(∀ b∈Co c,KC O E cf n keep (.loop b))→KC O E cf n keep c:=by
 intro c
 induction c with
 | loop b _=>intro h;exact h b (by simp[Co])
 | seq a b iha ihb=>intro h;exact ⟨iha fun x hx=>h x (by simp[Co,hx]),ihb fun x hx=>h x (by simp[Co,hx])⟩
 | cond _ a b iha ihb=>intro h;exact ⟨iha fun x hx=>h x (by simp[Co,hx]),ihb fun x hx=>h x (by simp[Co,hx])⟩
 | block _ a iha=>intro h;exact iha h
 | _=>intro h;trivial
inductive RU (O:BJ) (E:A4) (cf:Nat→List Ae→Option Ec) (n:Nat) (keep:List (Nat × List Nat)):List Code→Prop
 | nil:RU O E cf n keep []
 | cons {b bs} (h:KC O E cf n keep (.loop b)) (t:RU O E cf n keep bs):RU O E cf n keep (b::bs)
theorem OH {O:BJ} {E:A4} {cf:Nat→List Ae→Option Ec} {n:Nat} {keep:List (Nat × List Nat)} {c:Code} {bs:List Code} (h:Co c=bs) (ha:RU O E cf n keep bs):KC O E cf n keep c:=by
 refine ZP ?_
 rw[h]
 clear h
 induction ha with
 | nil=>simp
 | cons h _ ih =>
   intro b hb
   rw[mem_cons] at hb
   rcases hb with rfl | hb
   ·exact h
   ·exact ih b hb
def BQ {E:A4} {V X:Type} (no:Nat) (P:List Ae) (S:By V) (A:Aa X) (F:Nat→V→Option X) (h:∀ n v x,F n v=some x→Ak E n no (Hk P (S.pk v))=some (A.enc x)):A7 E where
 no:=no
 fits:=fun as=>(IM P as []).isSome
 W:=fun n as k=>bd (IM P as []) fun ls=>bd (S.up ls) fun v=>bd (F n v) fun x=>A.out x k
 ok:=by
  intro n β as k x hh
  obtain ⟨ls,h1,hh⟩:=Dy hh
  obtain ⟨v,h2,hh⟩:=Dy hh
  obtain ⟨y,h3,hh⟩:=Dy hh
  have:=h n v y h3
  rw[← S.ok _ _ h2,ci h1] at this
  refine ⟨_,this,?_⟩
  rw[A.ok'] at hh;exact hh
theorem SY {E:A4} {V X:Type} {no:Nat} {P:List Ae} {S:By V} {A:Aa X} {F:Nat→V→Option X} {c:Code} {modes:List DG} {outs:List Nat} {results:List (Nat × Option (Bool × Nat))} {keep:List (Nat × List Nat)} (O:Nat→BJ)
  (hf:E.fn no=some (.code c modes outs results keep)) (hO:∀ n,(O n).CfOk (Ak E n)) (hl:∀ n,KC (O n) E (Ak E n) n keep c)
  (h0:∀ v,F 0 v=none) (hs:∀ n v,F (n+1) v=ko E (O n) no (Hk P (S.pk v)) A.dec) :
  ∀ n v x,F n v=some x→Ak E n no (Hk P (S.pk v))=some (A.enc x):=by
 intro n v x h
 cases n with
 | zero=>rw[h0] at h;simp at h
 | succ n =>
   rw[hs] at h
   obtain ⟨r,h1,h2⟩:=XO hf (hO n) (hl n) h
   rw[h1,A.ok _ _ h2]
structure nc (E:A4) (n:Nat) where
 no:Nat
 fits:List Ae→Bool
 W : {β:Type}→List Ae→(Ec→Option β)→Option β
 ok:∀ (β:Type) as (k:Ec→Option β) x,W as k=some x→∃ r,Ak E n no as=some r∧k r=some x
def A7.at {E:A4} (w:A7 E) (n:Nat):nc E n:=⟨w.no,w.fits,fun as k=>w.W n as k,fun β as k x h=>w.ok n β as k x h⟩
def QN (t:T):Option (List (Bool × List Pm × List T)):=some [(false,[.leaf],[t])]
def DI:List T→Option (List (Bool × List Pm × List T))
 | [.int .u32 n]=>if 0≤n then QN (.flt .f32 (At .f32 n.toNat)) else none
 | _=>none
def Br:List T→Option (List (Bool × List Pm × List T))
 | [.int .u64 n]=>if 0≤n then QN (.flt .f64 (At .f64 n.toNat)) else none
 | [.opq]=>QN (.flt .f64 (D6 .f64))
 | _=>none
def Gh:List T→Option (List (Bool × List Pm × List T))
 | [.flt .f32 x]=>if isNaN .f32 x then none else QN (.int .u32 x)
 | _=>none
def Do:List T→Option (List (Bool × List Pm × List T))
 | [.flt .f64 x]=>if isNaN .f64 x then QN .opq else QN (.int .u64 x)
 | _=>none
def Pz (x:Nat):Nat:=if isNaN .f64 x then D6 .f64 else x % 9223372036854775808
def VG:List T→Option (List (Bool × List Pm × List T))
 | [.flt .f64 x]=>if x<18446744073709551616 then QN (.flt .f64 (Pz x)) else none
 | _=>none
def EV:List T→Option (List (Bool × List Pm × List T))
 | [.flt .f64 x,.flt .f64 s]=>if isNaN .f64 s then none else if isNaN .f64 x then none else
     if x<18446744073709551616∧s<18446744073709551616 then QN (.flt .f64 (x % 9223372036854775808+s / 9223372036854775808 * 9223372036854775808)) else none
 | _=>none
def Bw (way:Ieee.Toward) (x:Nat):Nat:=match FloatKind.f64.decode x with
 | .nan _ _=>D6 .f64
 | d=>FloatKind.f64.encode (d.integral way)
def Dt (way:Ieee.Toward):List T→Option (List (Bool × List Pm × List T))
 | [.flt .f64 x]=>QN (.flt .f64 (Bw way x))
 | _=>none
def iI:List T→Option (List (Bool × List Pm × List T))
 | [.flt .f64 x]=>QN (YY .f64 (FloatKind.f64.format.sqrt x))
 | _=>none
def fU (W:Nat):List Ae→Option Ec
 | [⟨.io,⟨false,[.sl .own el],[.lst n cs]⟩⟩,⟨.val,⟨false,[.leaf],[.int .i64 i]⟩⟩,⟨.val,⟨false,[.leaf],[.int .i64 j]⟩⟩] =>
   if el.length=W∧0<W∧Bv 0 el=true∧0≤i∧i≤j∧j≤(n:Int) then
    some ⟨[⟨false,[.sl .own el],[.lst (n - (j.toNat - i.toNat)) (cs.take (i.toNat * W)++cs.drop (j.toNat * W))]⟩],[some ⟨false,[.dead],[.lst n cs]⟩,none,none]⟩
   else none
 | _=>none
def dx:List Ae→Option Ec
 | [⟨.io,⟨false,[.sl .own [.leaf]],[.lst n cs]⟩⟩]=>if n<4611686018427387904 then some ⟨[],[some ⟨false,[.sl .own [.leaf]],[.lst n cs.reverse]⟩]⟩ else none
 | _=>none
def Dq (W:Nat) (p:List T→Option Bool):Nat→List T→Option (Nat × List T)
 | 0,_=>some (0,[])
 | n+1,cs=>match p (cs.take W) with
   | none=>none
   | some b=>match Dq W p n (cs.drop W) with
     | none=>none
     | some (m,ds)=>some (match b with
       | true=>(m,ds)
       | false=>(m+1,cs.take W++ds))
def G2 (fc:Nat) (el ps:List Pm) (pr:List T→List T→Option Bool):List Ae→Option Ec
 | [⟨.io,⟨false,[.sl .own el'],[.lst n cs]⟩⟩,⟨.val,⟨false,[.fn qs],[.fn f ts]⟩⟩] =>
   if pbeqs el' el=true∧0<el.length∧Bv 0 el=true∧f=fc∧pbeqs qs ps=true∧n<4611686018427387904 then match Dq el.length (pr ts) n cs with
    | none=>none
    | some (m,ds)=>some ⟨[⟨false,[.sl .own el],[.lst m ds]⟩],[some ⟨false,[.dead],[.lst n cs]⟩,none]⟩
   else none
 | _=>none
def Ez:List T→List T→Option Bool
 | [.ref [.int .i64 k]],.int .i64 a::_=>some (a==k)
 | _,_=>none
def GB:List T→List T→Option Bool
 | [],[.int .i64 k,_,.lst _ xs]=>match k==0 with
   | false=>some false
   | true=>match xs with
     | .flt .f32 x::_=>some (FloatKind.f32.format.order x 1065353216==some .eq)
     | _=>none
 | _,_=>none
def gr (el:List Pm):List Ae→Option Ec
 | [⟨.io,⟨false,[.sl .own a],[.lst n cs]⟩⟩,⟨.val,⟨false,[.leaf],[.int .i64 i]⟩⟩,⟨.io,⟨false,[.sl .own b],[.lst m ds]⟩⟩] =>
   if pbeqs a el=true∧pbeqs b el=true∧0<el.length∧Bv 0 el=true∧m=1∧0≤i∧i≤(n:Int)∧0<n∧n<1000000 then
    some ⟨[⟨false,[.sl .own el],[.lst (n+1) (cs.take (i.toNat * el.length)++ds++cs.drop (i.toNat * el.length))]⟩],[some ⟨false,[.dead],[.lst n cs]⟩,none,some ⟨false,[.dead],[.lst m ds]⟩]⟩
   else none
 | _=>none
def H6:By Nat where
 pk:=fun v=>[.flt v]
 up:=fun ls=>match ls with
  | [.flt a]=>some a
  | _=>none
 ok:=by
  intro ls v h
  split at h
  ·cases h;rfl
  ·cases h
def YR:By Int where
 pk:=fun v=>[.int v]
 up:=fun ls=>match ls with
  | [.int a]=>some a
  | _=>none
 ok:=by
  intro ls v h
  split at h
  ·cases h;rfl
  ·cases h
def dU:By (Nat × Nat) where
 pk:=fun v=>[.flt v.1,.flt v.2]
 up:=fun ls=>match ls with
  | [.flt a,.flt b]=>some (a,b)
  | _=>none
 ok:=by
  intro ls v h
  split at h
  ·cases h;rfl
  ·cases h
def LL (k:FloatKind):Ae:=⟨.val,⟨false,[.leaf],[.flt k 0]⟩⟩
def Qh (k:IntKind):Ae:=⟨.val,⟨false,[.leaf],[.int k 0]⟩⟩
def Rs (k:FloatKind) (n:Nat):Ec:=⟨[⟨false,[.leaf],[.flt k 0]⟩],List.replicate n none⟩
def jH (k:IntKind):Ec:=⟨[⟨false,[.leaf],[.int k 0]⟩],[none]⟩
def Fs (n:Nat) (x:Nat):Option Int:=match n with
 | 0=>none
 | _+1=>if isNaN .f32 x then none else some (x:Int)
def Bu (n:Nat) (x:Nat):Option Int:=match n with
 | 0=>none
 | _+1=>if isNaN .f64 x then none else some (x:Int)
def D1 (n:Nat) (i:Int):Option Nat:=match n with
 | 0=>none
 | _+1=>if 0≤i then some (At .f32 i.toNat) else none
def Av (n:Nat) (i:Int):Option Nat:=match n with
 | 0=>none
 | _+1=>if 0≤i then some (At .f64 i.toNat) else none
def Qo (n:Nat) (x:Nat):Option Nat:=match n with
 | 0=>none
 | _+1=>if x<18446744073709551616 then some (Pz x) else none
def FM (n:Nat) (x s:Nat):Option Nat:=match n with
 | 0=>none
 | _+1=>if isNaN .f64 s then none else if isNaN .f64 x then none else
    if x<18446744073709551616∧s<18446744073709551616 then some (x % 9223372036854775808+s / 9223372036854775808 * 9223372036854775808) else none
def E3 (n:Nat) (x:Nat):Option Nat:=match n with
 | 0=>none
 | _+1=>some (Bw .down x)
def C2 (n:Nat) (x:Nat):Option Nat:=match n with
 | 0=>none
 | _+1=>some (Bw .zero x)
def E2 (n:Nat) (x:Nat):Option Nat:=match n with
 | 0=>none
 | _+1=>some (Bw .even x)
def iC (x:Nat):Nat:=match FloatKind.f64.format.sqrt x with
 | some b=>b
 | none=>D6 .f64
def Wr (n:Nat) (x:Nat):Option Nat:=match n with
 | 0=>none
 | _+1=>some (iC x)
section
variable {E:A4} (no:Nat)
noncomputable def Fs.w (h:E.fn no=some (.ext Gh)):A7 E:=BQ no [LL .f32] H6 (.one (jH .u32) YR) Fs (by
 intro n x r hh
 cases n with
 | zero=>simp[Fs] at hh
 | succ n =>
   simp only[Fs] at hh
   split at hh
   ·simp at hh
   ·rename_i hn
    simp only[zS] at hh
    subst hh
    have:Ak E (n+1) no (Hk [LL .f32] (H6.pk x))=(match Gh [.flt .f32 x] with
     | none=>none
     | some rs=>some ⟨rs.map fun x=>⟨x.1,x.2.1,x.2.2⟩,[none]⟩):=by simp only[Ak,h];rfl
    rw[this]
    simp only[Gh,hn,if_false]
    rfl)
noncomputable def Bu.w (h:E.fn no=some (.ext Do)):A7 E:=BQ no [LL .f64] H6 (.one (jH .u64) YR) Bu (by
 intro n x r hh
 cases n with
 | zero=>simp[Bu] at hh
 | succ n =>
   simp only[Bu] at hh
   split at hh
   ·simp at hh
   ·rename_i hn
    simp only[zS] at hh
    subst hh
    have:Ak E (n+1) no (Hk [LL .f64] (H6.pk x))=(match Do [.flt .f64 x] with
     | none=>none
     | some rs=>some ⟨rs.map fun x=>⟨x.1,x.2.1,x.2.2⟩,[none]⟩):=by simp only[Ak,h];rfl
    rw[this]
    simp only[Do,hn,if_false]
    rfl)
noncomputable def D1.w (h:E.fn no=some (.ext DI)):A7 E:=BQ no [Qh .u32] YR (.one (Rs .f32 1) H6) D1 (by
 intro n x r hh
 cases n with
 | zero=>simp[D1] at hh
 | succ n =>
   simp only[D1] at hh
   split at hh
   ·rename_i hn
    simp only[zS] at hh
    subst hh
    have:Ak E (n+1) no (Hk [Qh .u32] (YR.pk x))=(match DI [.int .u32 x] with
     | none=>none
     | some rs=>some ⟨rs.map fun x=>⟨x.1,x.2.1,x.2.2⟩,[none]⟩):=by simp only[Ak,h];rfl
    rw[this]
    simp only[DI,hn,if_true]
    rfl
   ·simp at hh)
noncomputable def Av.w (h:E.fn no=some (.ext Br)):A7 E:=BQ no [Qh .u64] YR (.one (Rs .f64 1) H6) Av (by
 intro n x r hh
 cases n with
 | zero=>simp[Av] at hh
 | succ n =>
   simp only[Av] at hh
   split at hh
   ·rename_i hn
    simp only[zS] at hh
    subst hh
    have:Ak E (n+1) no (Hk [Qh .u64] (YR.pk x))=(match Br [.int .u64 x] with
     | none=>none
     | some rs=>some ⟨rs.map fun x=>⟨x.1,x.2.1,x.2.2⟩,[none]⟩):=by simp only[Ak,h];rfl
    rw[this]
    simp only[Br,hn,if_true]
    rfl
   ·simp at hh)
noncomputable def Qo.w (h:E.fn no=some (.ext VG)):A7 E:=BQ no [LL .f64] H6 (.one (Rs .f64 1) H6) Qo (by
 intro n x r hh
 cases n with
 | zero=>simp[Qo] at hh
 | succ n =>
   simp only[Qo] at hh
   split at hh
   ·rename_i hn
    simp only[zS] at hh
    subst hh
    have:Ak E (n+1) no (Hk [LL .f64] (H6.pk x))=(match VG [.flt .f64 x] with
     | none=>none
     | some rs=>some ⟨rs.map fun x=>⟨x.1,x.2.1,x.2.2⟩,[none]⟩):=by simp only[Ak,h];rfl
    rw[this]
    simp only[VG,hn,if_true]
    rfl
   ·simp at hh)
noncomputable def FM.w (h:E.fn no=some (.ext EV)):A7 E:=BQ no [LL .f64,LL .f64] dU (.one (Rs .f64 2) H6) (fun n v=>FM n v.1 v.2) (by
 intro n x r hh
 cases n with
 | zero=>simp[FM] at hh
 | succ n =>
   simp only[FM] at hh
   have:Ak E (n+1) no (Hk [LL .f64,LL .f64] (dU.pk x))=(match EV [.flt .f64 x.1,.flt .f64 x.2] with
     | none=>none
     | some rs=>some ⟨rs.map fun x=>⟨x.1,x.2.1,x.2.2⟩,[none,none]⟩):=by simp only[Ak,h];rfl
   rw[this]
   simp only[EV]
   split at hh
   ·simp at hh
   ·rename_i hn
    split at hh
    ·simp at hh
    ·rename_i hx
     split at hh
     ·rename_i hb
      simp only[zS] at hh
      subst hh
      simp only[hn,hx,hb,if_false,if_true]
      rfl
     ·simp at hh)
theorem JH {way:Ieee.Toward} (h:E.fn no=some (.ext (Dt way))) (n:Nat) (x:Nat):Ak E (n+1) no (Hk [LL .f64] (H6.pk x))=some ((Aa.one (Rs .f64 1) H6).enc (Bw way x)):=by
 simp only[Ak,h];rfl
noncomputable def E3.w (h:E.fn no=some (.ext (Dt .down))):A7 E:=BQ no [LL .f64] H6 (.one (Rs .f64 1) H6) E3 (by
 intro n x r hh
 cases n with
 | zero=>simp[E3] at hh
 | succ n =>
   simp only[E3,zS] at hh
   rw[← hh];exact JH no h n x)
noncomputable def C2.w (h:E.fn no=some (.ext (Dt .zero))):A7 E:=BQ no [LL .f64] H6 (.one (Rs .f64 1) H6) C2 (by
 intro n x r hh
 cases n with
 | zero=>simp[C2] at hh
 | succ n =>
   simp only[C2,zS] at hh
   rw[← hh];exact JH no h n x)
noncomputable def E2.w (h:E.fn no=some (.ext (Dt .even))):A7 E:=BQ no [LL .f64] H6 (.one (Rs .f64 1) H6) E2 (by
 intro n x r hh
 cases n with
 | zero=>simp[E2] at hh
 | succ n =>
   simp only[E2,zS] at hh
   rw[← hh];exact JH no h n x)
noncomputable def Wr.w (h:E.fn no=some (.ext iI)):A7 E:=BQ no [LL .f64] H6 (.one (Rs .f64 1) H6) Wr (by
 intro n x r hh
 cases n with
 | zero=>simp[Wr] at hh
 | succ n =>
   simp only[Wr,zS] at hh
   rw[← hh]
   simp only[Ak,h]
   rfl)
end
def ZZ:By (Nat × List T × Int × Int) where
 pk:=fun v=>[.lst v.1 v.2.1,.int v.2.2.1,.int v.2.2.2]
 up:=fun ls=>match ls with
  | [.lst a b,.int c,.int d]=>some (a,b,c,d)
  | _=>none
 ok:=by
  intro ls v h
  split at h
  ·cases h;rfl
  ·cases h
def ae:By (Nat × List T × Nat × List T) where
 pk:=fun v=>[.lst v.1 v.2.1,.lst v.2.2.1 v.2.2.2]
 up:=fun ls=>match ls with
  | [.lst a b,.lst c d]=>some (a,b,c,d)
  | _=>none
 ok:=by
  intro ls v h
  split at h
  ·cases h;rfl
  ·cases h
def OJ (W n k:Nat) (cs:List T) (i j:Int):Option (Nat × List T × Nat × List T):=match n with
 | 0=>none
 | _+1=>if 0≤i∧i≤j∧j≤(k:Int) then some (k - (j.toNat - i.toNat),cs.take (i.toNat * W)++cs.drop (j.toNat * W),k,cs) else none
noncomputable def OJ.w {E:A4} (W:Nat) (el:List Pm) (hW:el.length=W) (h0:0<W) (hf:Bv 0 el=true) (no:Nat) (h:E.fn no=some (.sem [.io,.val,.val] (fU W))):A7 E :=
 BQ no [⟨.io,⟨false,[.sl .own el],[.lst 0 []]⟩⟩,Qh .i64,Qh .i64] ZZ (.one ⟨[⟨false,[.sl .own el],[.lst 0 []]⟩],[some ⟨false,[.dead],[.lst 0 []]⟩,none,none]⟩ ae) (fun n v=>OJ W n v.1 v.2.1 v.2.2.1 v.2.2.2) (by
 intro n v r hh
 obtain ⟨k,cs,i,j⟩:=v
 cases n with
 | zero=>simp[OJ] at hh
 | succ n =>
   simp only[OJ] at hh
   split at hh
   ·rename_i hc
    simp only[zS] at hh
    subst hh
    have:Ak E (n+1) no (Hk [⟨.io,⟨false,[.sl .own el],[.lst 0 []]⟩⟩,Qh .i64,Qh .i64] (ZZ.pk (k,cs,i,j)))=fU W [⟨.io,⟨false,[.sl .own el],[.lst k cs]⟩⟩,⟨.val,⟨false,[.leaf],[.int .i64 i]⟩⟩,⟨.val,⟨false,[.leaf],[.int .i64 j]⟩⟩]:=by simp only[Ak,h];rfl
    rw[this]
    simp only[fU]
    rw[if_pos ⟨hW,h0,hf,hc⟩]
    rfl
   ·simp at hh)
def TJ:By (Nat × List T) where
 pk:=fun v=>[.lst v.1 v.2]
 up:=fun ls=>match ls with
  | [.lst a b]=>some (a,b)
  | _=>none
 ok:=by
  intro ls v h
  split at h
  ·cases h;rfl
  ·cases h
def MX (n k:Nat) (cs:List T):Option (Nat × List T):=match n with
 | 0=>none
 | _+1=>if k<4611686018427387904 then some (k,cs.reverse) else none
noncomputable def MX.w {E:A4} (no:Nat) (h:E.fn no=some (.sem [.io] dx)):A7 E :=
 BQ no [⟨.io,⟨false,[.sl .own [.leaf]],[.lst 0 []]⟩⟩] TJ (.one ⟨[],[some ⟨false,[.sl .own [.leaf]],[.lst 0 []]⟩]⟩ TJ) (fun n v=>MX n v.1 v.2) (by
 intro n v r hh
 obtain ⟨k,cs⟩:=v
 cases n with
 | zero=>simp[MX] at hh
 | succ n =>
   simp only[MX] at hh
   split at hh
   ·rename_i hc
    simp only[zS] at hh
    subst hh
    have:Ak E (n+1) no (Hk [⟨.io,⟨false,[.sl .own [.leaf]],[.lst 0 []]⟩⟩] (TJ.pk (k,cs)))=dx [⟨.io,⟨false,[.sl .own [.leaf]],[.lst k cs]⟩⟩]:=by simp only[Ak,h];rfl
    rw[this]
    simp only[dx]
    rw[if_pos hc]
    rfl
   ·simp at hh)
def dT:By (Nat × List T × Int) where
 pk:=fun v=>[.lst v.1 v.2.1,.int v.2.2]
 up:=fun ls=>match ls with
  | [.lst a b,.int c]=>some (a,b,c)
  | _=>none
 ok:=by
  intro ls v h
  split at h
  ·cases h;rfl
  ·cases h
def HO (W:Nat) (p:List T→Option Bool) (k:Nat) (cs:List T):Option (Nat × List T × Nat × List T) :=
 if k<4611686018427387904 then match Dq W p k cs with
  | none=>none
  | some (m,ds)=>some (m,ds,k,cs)
 else none
def FU (W n k:Nat) (cs:List T) (a:Int):Option (Nat × List T × Nat × List T):=match n with
 | 0=>none
 | _+1=>HO W (Ez [.ref [.int .i64 a]]) k cs
def Gq (W n k:Nat) (cs:List T):Option (Nat × List T × Nat × List T):=match n with
 | 0=>none
 | _+1=>HO W (GB []) k cs
theorem Oh {fc k:Nat} {el ps:List Pm} {pr:List T→List T→Option Bool} {cs ts:List T} {r:Nat × List T × Nat × List T} (h0:0<el.length) (hf:Bv 0 el=true) (he:pbeqs el el=true) (hq:pbeqs ps ps=true) (h:HO el.length (pr ts) k cs=some r) :
  G2 fc el ps pr [⟨.io,⟨false,[.sl .own el],[.lst k cs]⟩⟩,⟨.val,⟨false,[.fn ps],[.fn fc ts]⟩⟩]=some ⟨[⟨false,[.sl .own el],[.lst r.1 r.2.1]⟩],[some ⟨false,[.dead],[.lst r.2.2.1 r.2.2.2]⟩,none]⟩:=by
 unfold HO at h
 split at h
 ·rename_i hk
  split at h
  ·cases h
  ·rename_i m ds hr
   simp only[zS] at h
   subst h
   simp only[G2,hr]
   rw[if_pos ⟨he,h0,hf,trivial,hq,hk⟩]
 ·cases h
noncomputable def FU.w {E:A4} (W fc:Nat) (el:List Pm) (hW:el.length=W) (h0:0<W) (hf:Bv 0 el=true) (he:pbeqs el el=true) (no:Nat) (h:E.fn no=some (.sem [.io,.val] (G2 fc el [.rf .shr [.leaf]] Ez))):A7 E :=
 BQ no [⟨.io,⟨false,[.sl .own el],[.lst 0 []]⟩⟩,⟨.val,⟨false,[.fn [.rf .shr [.leaf]]],[.fn fc [.ref [.int .i64 0]]]⟩⟩] dT (.one ⟨[⟨false,[.sl .own el],[.lst 0 []]⟩],[some ⟨false,[.dead],[.lst 0 []]⟩,none]⟩ ae) (fun n v=>FU W n v.1 v.2.1 v.2.2) (by
 intro n v r hh
 obtain ⟨k,cs,a⟩:=v
 cases n with
 | zero=>simp[FU] at hh
 | succ n =>
   simp only[FU] at hh
   subst hW
   have:Ak E (n+1) no (Hk [⟨.io,⟨false,[.sl .own el],[.lst 0 []]⟩⟩,⟨.val,⟨false,[.fn [.rf .shr [.leaf]]],[.fn fc [.ref [.int .i64 0]]]⟩⟩] (dT.pk (k,cs,a)))=G2 fc el [.rf .shr [.leaf]] Ez [⟨.io,⟨false,[.sl .own el],[.lst k cs]⟩⟩,⟨.val,⟨false,[.fn [.rf .shr [.leaf]]],[.fn fc [.ref [.int .i64 a]]]⟩⟩]:=by simp only[Ak,h];rfl
   rw[this,Oh h0 hf he rfl hh]
   rfl)
noncomputable def Gq.w {E:A4} (W fc:Nat) (el:List Pm) (hW:el.length=W) (h0:0<W) (hf:Bv 0 el=true) (he:pbeqs el el=true) (no:Nat) (h:E.fn no=some (.sem [.io,.val] (G2 fc el [] GB))):A7 E :=
 BQ no [⟨.io,⟨false,[.sl .own el],[.lst 0 []]⟩⟩,⟨.val,⟨false,[.fn []],[.fn fc []]⟩⟩] TJ (.one ⟨[⟨false,[.sl .own el],[.lst 0 []]⟩],[some ⟨false,[.dead],[.lst 0 []]⟩,none]⟩ ae) (fun n v=>Gq W n v.1 v.2) (by
 intro n v r hh
 obtain ⟨k,cs⟩:=v
 cases n with
 | zero=>simp[Gq] at hh
 | succ n =>
   simp only[Gq] at hh
   subst hW
   have:Ak E (n+1) no (Hk [⟨.io,⟨false,[.sl .own el],[.lst 0 []]⟩⟩,⟨.val,⟨false,[.fn []],[.fn fc []]⟩⟩] (TJ.pk (k,cs)))=G2 fc el [] GB [⟨.io,⟨false,[.sl .own el],[.lst k cs]⟩⟩,⟨.val,⟨false,[.fn []],[.fn fc []]⟩⟩]:=by simp only[Ak,h];rfl
   rw[this,Oh h0 hf he rfl hh]
   rfl)
def ZG:By (Nat × List T × Int × Nat × List T) where
 pk:=fun v=>[.lst v.1 v.2.1,.int v.2.2.1,.lst v.2.2.2.1 v.2.2.2.2]
 up:=fun ls=>match ls with
  | [.lst a b,.int c,.lst d e]=>some (a,b,c,d,e)
  | _=>none
 ok:=by
  intro ls v h
  split at h
  ·cases h;rfl
  ·cases h
def eT:By (Nat × List T × Nat × List T × Nat × List T) where
 pk:=fun v=>[.lst v.1 v.2.1,.lst v.2.2.1 v.2.2.2.1,.lst v.2.2.2.2.1 v.2.2.2.2.2]
 up:=fun ls=>match ls with
  | [.lst a b,.lst c d,.lst e f]=>some (a,b,c,d,e,f)
  | _=>none
 ok:=by
  intro ls v h
  split at h
  ·cases h;rfl
  ·cases h
def Nv (W n k:Nat) (cs:List T) (i:Int) (m:Nat) (ds:List T):Option (Nat × List T × Nat × List T × Nat × List T):=match n with
 | 0=>none
 | _+1=>if m=1∧0≤i∧i≤(k:Int)∧0<k∧k<1000000 then some (k+1,cs.take (i.toNat * W)++ds++cs.drop (i.toNat * W),k,cs,m,ds) else none
noncomputable def Nv.w {E:A4} (W:Nat) (el:List Pm) (hW:el.length=W) (h0:0<W) (hf:Bv 0 el=true) (he:pbeqs el el=true) (no:Nat) (h:E.fn no=some (.sem [.io,.val,.io] (gr el))):A7 E :=
 BQ no [⟨.io,⟨false,[.sl .own el],[.lst 0 []]⟩⟩,Qh .i64,⟨.io,⟨false,[.sl .own el],[.lst 0 []]⟩⟩] ZG (.one ⟨[⟨false,[.sl .own el],[.lst 0 []]⟩],[some ⟨false,[.dead],[.lst 0 []]⟩,none,some ⟨false,[.dead],[.lst 0 []]⟩]⟩ eT) (fun n v=>Nv W n v.1 v.2.1 v.2.2.1 v.2.2.2.1 v.2.2.2.2) (by
 intro n v r hh
 obtain ⟨k,cs,i,m,ds⟩:=v
 cases n with
 | zero=>simp[Nv] at hh
 | succ n =>
   simp only[Nv] at hh
   split at hh
   ·rename_i hc
    simp only[zS] at hh
    subst hh
    subst hW
    have:Ak E (n+1) no (Hk [⟨.io,⟨false,[.sl .own el],[.lst 0 []]⟩⟩,Qh .i64,⟨.io,⟨false,[.sl .own el],[.lst 0 []]⟩⟩] (ZG.pk (k,cs,i,m,ds)))=gr el [⟨.io,⟨false,[.sl .own el],[.lst k cs]⟩⟩,⟨.val,⟨false,[.leaf],[.int .i64 i]⟩⟩,⟨.io,⟨false,[.sl .own el],[.lst m ds]⟩⟩]:=by simp only[Ak,h];rfl
    rw[this]
    simp only[gr]
    rw[if_pos ⟨he,he,h0,hf,hc⟩]
    rfl
   ·simp at hh)
inductive LR:List T→List Value→Prop
 | nil:LR [] []
 | cons {t ts x xs} (h:AQ t x) (r:LR ts xs):LR (t::ts) (x::xs)
theorem Qz {w:World} {Fz:Nat→Prop} {as:List Ae} {xs:List Value} {mfp:Fp} (h:Eh w Fz as xs mfp) (hv:as.all G0=true):LR (as.flatMap fun a=>a.v.cs) xs:=by
 induction h with
 | nil=>exact .nil
 | @val v x vs as xs fs hc hR r ih =>
   simp only[all_cons,zB] at hv
   obtain ⟨h1,h2⟩:=hv
   obtain ⟨a,p,cs⟩:=v
   unfold G0 at h1
   split at h1
   ·rename_i t e
    simp only[Ae.mk.injEq,V.mk.injEq,true_and] at e
    obtain ⟨rfl,rfl,rfl⟩:=e
    have:=BI hc
    subst this
    cases hR with
    | leaf hl _=>exact .cons hl (ih h2)
   ·simp at h1
 | io=>simp[G0] at hv
 | iop=>simp[G0] at hv
theorem V6 {w:World} {Fz:Nat→Prop} {t:T} {x:Value} (h:AQ t x) (hc:AE false x [x]):∃ fr,R9 w Fz noLt 0 ([((false,[.leaf],[t]):Bool × List Pm × List T)].map fun x=>⟨x.1,x.2.1,x.2.2⟩) x fr∧(fr.flatten.map Fe.b).Nodup∧∀ y∈fr.flatten,w.heap.size≤y.b:=by
 refine ⟨[[]],⟨[x],.cons hc (.leaf h .nil) .nil,rfl⟩,by simp,by simp⟩
section
variable {P:Program} {f:Nat} {fn:Func}
theorem Lh {g : List T → Option (List (Bool × List Pm × List T))} {e : Array Value → Sem Value} (hf : P.funcs[f]? = some fn) (hname : (fn.name == "runtime.NumGoroutine") = false) (hb : fn.body.isNone = true) (hn : Extern.findNext fn = none) (he : Extern.find fn = some e)
  (hg:∀ ts rs xs,g ts=some rs→LR ts xs→∃ t,rs=[(false,[.leaf],[t])]∧∀ w:World,∃ z w',(e xs.toArray).run P w = .ok z w'∧AQ t z∧AE false z [z]∧(w'=w∨w'=w.drew)):IC P f g:=by
 refine bo.ok ?_
 intro ts rs h w Fz as xs hA hv ht
 have hL:=Qz hA hv
 rw[ht] at hL
 obtain ⟨t,rfl,hr⟩:=hg ts rs xs h hL
 obtain ⟨z,w',h1,h2,h3,h4⟩:=hr w
 obtain ⟨fr,k1,k2,k3⟩:=V6 (w:=w') (Fz:=Fz) h2 h3
 refine ⟨z,w',?_,OS h4,fr,k1,k2,fun y hy => ?_⟩
 ·rw[run_callFunc_extern hf hname hb hn he,h1];rfl
 ·rcases h4 with rfl | rfl
  ·exact k3 y hy
  ·exact k3 y hy
theorem MZ (k:IntKind) (n:Int):AE false (.int k n) [.int k n]:=by simp[AE]
theorem FI (k:FloatKind) (n:Nat):AE false (.float k n) [.float k n]:=by simp[AE]
variable (hf : P.funcs[f]? = some fn) (hname : (fn.name == "runtime.NumGoroutine") = false) (hb : fn.body.isNone = true) (hn : Extern.findNext fn = none)
include hf hname hb hn
theorem Rr (he:Extern.find fn=some Extern.MathFloatBits.float32bits):IC P f Gh:=by
 refine Lh hf hname hb hn he fun ts rs xs h hL => ?_
 unfold Gh at h
 split at h
 ·rename_i x
  split at h
  ·simp at h
  ·rename_i hx
   cases h
   cases hL with
   | cons h1 r =>
     cases r
     obtain ⟨b,rfl,hb'⟩:=h1
     refine ⟨_,rfl,fun w=>⟨.int .u32 b,w,rfl,?_,MZ _ _,.inl rfl⟩⟩
     have:isNaN .f32 b=false:=by rw[← Fw,hb'];simpa using hx
     rw[BA this] at hb'
     subst hb';rfl
 ·simp at h
theorem IR (he:Extern.find fn=some Extern.MathFloatBits.float64bits):IC P f Do:=by
 refine Lh hf hname hb hn he fun ts rs xs h hL => ?_
 unfold Do at h
 split at h
 ·rename_i x
  split at h
  ·rename_i hx
   cases h
   cases hL with
   | cons h1 r =>
     cases r
     obtain ⟨b,rfl,hb'⟩:=h1
     exact ⟨_,rfl,fun w=>⟨.int .u64 b,w,rfl,⟨b,by rw[← Fw,hb'];exact hx,rfl⟩,MZ _ _,.inl rfl⟩⟩
  ·rename_i hx
   cases h
   cases hL with
   | cons h1 r =>
     cases r
     obtain ⟨b,rfl,hb'⟩:=h1
     refine ⟨_,rfl,fun w=>⟨.int .u64 b,w,rfl,?_,MZ _ _,.inl rfl⟩⟩
     have:isNaN .f64 b=false:=by rw[← Fw,hb'];simpa using hx
     rw[BA this] at hb'
     subst hb';rfl
 ·simp at h
theorem Mk (he:Extern.find fn=some Extern.MathFloatBits.float32frombits):IC P f DI:=by
 refine Lh hf hname hb hn he fun ts rs xs h hL => ?_
 unfold DI at h
 split at h
 ·rename_i n
  split at h
  ·cases h
   cases hL with
   | cons h1 r =>
     cases r
     simp only[AQ] at h1
     subst h1
     exact ⟨_,rfl,fun w=>⟨.float .f32 n.toNat,w,rfl,⟨_,rfl,rfl⟩,FI _ _,.inl rfl⟩⟩
  ·simp at h
 ·simp at h
theorem FO (he:Extern.find fn=some Extern.MathFloatBits.float64frombits):IC P f Br:=by
 refine Lh hf hname hb hn he fun ts rs xs h hL => ?_
 unfold Br at h
 split at h
 ·rename_i n
  split at h
  ·cases h
   cases hL with
   | cons h1 r =>
     cases r
     simp only[AQ] at h1
     subst h1
     exact ⟨_,rfl,fun w=>⟨.float .f64 n.toNat,w,rfl,⟨_,rfl,rfl⟩,FI _ _,.inl rfl⟩⟩
  ·simp at h
 ·cases h
  cases hL with
  | cons h1 r =>
    cases r
    obtain ⟨b,hb',rfl⟩:=h1
    exact ⟨_,rfl,fun w=>⟨.float .f64 (b:Int).toNat,w,rfl,⟨_,rfl,by rw[zT];exact BY hb'⟩,FI _ _,.inl rfl⟩⟩
 ·simp at h
end
theorem Tu {P:Program} {E:A4} {f:Nat} (hm:P.follows .mixedOrders=true) (hE:DO P E) (hT:∀ f fd,E.fn f=some fd→Cm P E f fd)
  (n1:∀ x,isNaN .f64 x=false→x<18446744073709551616→∃ N,Ak E N f [⟨.val,⟨false,[.leaf],[.flt .f64 x]⟩⟩]=some ⟨[⟨false,[.leaf],[.flt .f64 (x % 9223372036854775808)]⟩],[none]⟩)
  (n2:∃ N,Ak E N f [⟨.val,⟨false,[.leaf],[.flt .f64 (D6 .f64)]⟩⟩]=some ⟨[⟨false,[.leaf],[.flt .f64 (D6 .f64)]⟩],[none]⟩):IC P f VG:=by
 intro as r h w Fz xs mfp hA hn hF
 have hh:=h
 simp only[bY] at h
 split at h
 ·rename_i hv
  have hL:=Qz hA hv
  generalize ht:(as.flatMap fun a=>a.v.cs)=ts at h hL
  split at h
  ·simp at h
  ·rename_i rs hrs
   unfold VG at hrs
   split at hrs
   ·rename_i x
    split at hrs
    ·rename_i hx
     cases hrs
     have has:as=[⟨.val,⟨false,[.leaf],[.flt .f64 x]⟩⟩]:=by
      cases as with
      | nil=>simp at ht
      | cons a as =>
        simp only[all_cons,zB] at hv
        obtain ⟨h1,h2⟩:=hv
        unfold G0 at h1
        split at h1
        ·rename_i t
         simp only[flatMap_cons,cons_append,nil_append,List.cons.injEq] at ht
         obtain ⟨rfl,ht⟩:=ht
         cases as with
         | nil=>rfl
         | cons b bs =>
           simp only[all_cons,zB] at h2
           obtain ⟨h3,-⟩:=h2
           unfold G0 at h3
           split at h3
           ·simp at ht
           ·simp at h3
        ·simp at h1
     subst has
     cases hL with
     | cons h1 r =>
       obtain ⟨b,-,hb'⟩:=h1
       cases hN:isNaN .f64 x
       ·obtain ⟨N,e⟩:=n1 x hN hx
        have:=J4 hm hE hT N f _ _ e w Fz _ mfp hA hn hF
        rw[← Option.some.inj h]
        simpa [Pz,hN] using this
       ·have hq:x=D6 .f64:=by
         rw[← hb',Fw] at hN
         rw[← hb',BY hN]
        subst hq
        obtain ⟨N,e⟩:=n2
        have:=J4 hm hE hT N f _ _ e w Fz _ mfp hA hn hF
        rw[← Option.some.inj h]
        simpa [Pz,hN] using this
    ·simp at hrs
   ·simp at hrs
 ·simp at h
theorem YU (n:Nat) {x:Nat} (h:isNaN .f64 x=false):(bd (Bu (n+1) x) fun r2=>bd (Av (n+1) (intBits BinOp.andNot IntKind.u64 r2 (9223372036854775808:Int))) fun r4=>some r4)=some (x % 9223372036854775808):=by
 have h2:isNaN .f64 (x % 9223372036854775808)=false:=by rw[Ge] at h ⊢;rw[Nat.mod_mod];exact h
 have e1:Bu (n+1) x=some (x:Int):=by simp[Bu,h]
 rw[e1]
 show bd (Av (n+1) (intBits BinOp.andNot IntKind.u64 (x:Int) (9223372036854775808:Int))) (fun r4=>some r4)=_
 rw[LK]
 have e2:Av (n+1) ((x % 9223372036854775808:Nat):Int)=some (x % 9223372036854775808):=by
  show (if 0≤((x % 9223372036854775808:Nat):Int) then some (At .f64 ((x % 9223372036854775808:Nat):Int).toNat) else none)=_
  rw[if_pos (by omega),zT,BA h2]
 rw[e2];rfl
theorem Ud (s:Bool) (t:Nat):isNaN .f64 (FloatKind.f64.encode (.nan s (FloatKind.f64.format.quiet t)))=true:=by
 have hb:FloatKind.f64.format.binade=2 ^ 52:=rfl
 have hi:FloatKind.f64.format.infRung=9218868437227405312:=rfl
 have hw:FloatKind.f64.format.signWeight=9223372036854775808:=rfl
 have hq:FloatKind.f64.format.quiet t % 2 ^ 52≠0:=by
  intro h
  have h1:(FloatKind.f64.format.quiet t % 2 ^ 52).testBit 51=true:=by
   show ((t ||| 2 ^ 51) % 2 ^ 52).testBit 51=true
   rw[Nat.testBit_mod_two_pow,Nat.testBit_or,Nat.testBit_two_pow]
   simp
  rw[h] at h1
  simp at h1
 have hlt:FloatKind.f64.format.quiet t % 2 ^ 52<2 ^ 52:=Nat.mod_lt _ (by decide)
 show isNaN .f64 (FloatKind.f64.format.word s (FloatKind.f64.format.infRung+FloatKind.f64.format.quiet t % FloatKind.f64.format.binade))=true
 rw[Ge,hb,hi]
 generalize FloatKind.f64.format.quiet t % 2 ^ 52=q at *
 unfold Ieee.Format.word
 rw[hw]
 have hlt:q<4503599627370496:=hlt
 split <;>simp <;>omega
section
variable {P:Program} {f:Nat} {fn:Func}
theorem cz {name : String} {way : Ieee.Toward} (hf : P.funcs[f]? = some fn) (hname : (fn.name == "runtime.NumGoroutine") = false) (hb : fn.body.isNone = true) (hn : Extern.findNext fn = none) (he : Extern.find fn = some (Extern.MathFloor.toIntegral name way)) : IC P f (Dt way) := by
 refine Lh hf hname hb hn he fun ts rs xs h hL => ?_
 unfold Dt at h
 split at h
 ·rename_i x
  cases h
  cases hL with
  | cons h1 r =>
    cases r
    obtain ⟨b,rfl,hb'⟩:=h1
    refine ⟨_,rfl,fun w => ?_⟩
    have hxs:([Value.float .f64 b]:List Value).toArray = #[.float .f64 b]:=rfl
    rw[hxs]
    have hrun:Extern.MathFloor.toIntegral name way #[.float .f64 b]=(match FloatKind.f64.decode b with
     | .nan s t=>if FloatKind.f64.format.quiet t=t then pure (.float .f64 b) else do
       let kept ← choose (.extern "math.Floor,Ceil,Trunc,RoundToEven.signallingNaN kept" 2)
       pure (.float .f64 (if kept==1 then b else FloatKind.f64.encode (.nan s (FloatKind.f64.format.quiet t))))
     | d=>pure (.float .f64 (FloatKind.f64.encode (d.integral way)))):=rfl
    rw[hrun]
    have hnum:∀ d:Ieee.Datum,(∀ s t,d ≠ .nan s t)→At .f64 (FloatKind.f64.encode d)=FloatKind.f64.encode d:=fun d hd=>BA (Gc hd)
    cases hd:FloatKind.f64.decode b with
    | nan s t =>
      have hN:isNaN .f64 b=true:=by unfold isNaN;rw[hd];rfl
      have hx:x=D6 .f64:=by rw[← hb',BY hN]
      have hi:Bw way (D6 .f64)=D6 .f64:=by cases way <;>decide
      subst hx
      rw[hi]
      by_cases hq:FloatKind.f64.format.quiet t=t
      ·simp only[if_pos hq]
       exact ⟨.float .f64 b,w,rfl,⟨b,rfl,BY hN⟩,FI _ _,.inl rfl⟩
      ·simp only[if_neg hq]
       refine ⟨_,w.drew,rfl,⟨_,rfl,?_⟩,FI _ _,.inr rfl⟩
       apply BY
       split
       ·exact hN
       ·exact Ud s t
    | infinity s =>
      have hN:isNaN .f64 b=false:=by unfold isNaN;rw[hd];rfl
      rw[BA hN] at hb'
      subst hb'
      refine ⟨_,w,rfl,⟨_,rfl,?_⟩,FI _ _,.inl rfl⟩
      have hi:Bw way b=FloatKind.f64.encode ((Ieee.Datum.infinity s).integral way):=by unfold Bw;rw[hd]
      rw[hi]
      exact hnum _ (fun s t h=>by cases h)
    | number s m e =>
      have hN:isNaN .f64 b=false:=by unfold isNaN;rw[hd];rfl
      rw[BA hN] at hb'
      subst hb'
      refine ⟨_,w,rfl,⟨_,rfl,?_⟩,FI _ _,.inl rfl⟩
      have hi:Bw way b=FloatKind.f64.encode ((Ieee.Datum.number s m e).integral way):=by unfold Bw;rw[hd]
      rw[hi]
      exact hnum _ (fun s t h=>by cases h)
 ·simp at h
theorem Ku (hf : P.funcs[f]? = some fn) (hname : (fn.name == "runtime.NumGoroutine") = false) (hb : fn.body.isNone = true) (hn : Extern.findNext fn = none) (he : Extern.find fn = some (Extern.MathFloor.toIntegral "math.archTrunc" .zero)) : IC P f (Dt .zero) := cz hf hname hb hn he
end
theorem UF (b:Nat) (hb:b<18446744073709551616):b &&& 2 ^ 63=b / 9223372036854775808 * 9223372036854775808:=by
 apply Nat.eq_of_testBit_eq
 intro i
 rw[Nat.testBit_and,Nat.testBit_two_pow]
 rcases Nat.lt_or_ge b 9223372036854775808 with h | h
 ·rw[Nat.div_eq_of_lt h,Nat.zero_mul,Nat.zero_testBit]
  by_cases e:63=i
  ·subst e;rw[Nat.testBit_lt_two_pow (by simpa using h)];rfl
  ·simp[e]
 ·have:b / 9223372036854775808=1:=by omega
  rw[this,Nat.one_mul,show (9223372036854775808:Nat)=2 ^ 63 from rfl,Nat.testBit_two_pow]
  by_cases e:63=i
  ·subst e
   have:b.testBit 63=true:=by
    rw[Nat.testBit_eq_decide_div_mod_eq]
    have:b / 2 ^ 63 % 2=1:=by show b / 9223372036854775808 % 2=1;omega
    simp[this]
   simp[this]
  ·simp[e]
theorem cP (b:Nat) (hb:b<18446744073709551616):intBits .and .u64 (b:Int) 9223372036854775808=((b / 9223372036854775808 * 9223372036854775808:Nat):Int):=by
 have h:(BitVec.ofInt 64 (b:Int) &&& (BitVec.ofInt 64 9223372036854775808)).toNat=b / 9223372036854775808 * 9223372036854775808:=by
  have e1:BitVec.ofInt 64 (b:Int)=BitVec.ofNat 64 b:=by
   apply BitVec.eq_of_toNat_eq
   simp
  have e2:(BitVec.ofInt 64 9223372036854775808)=BitVec.ofNat 64 (2 ^ 63):=by decide
  rw[e1,e2,BitVec.toNat_and,BitVec.toNat_ofNat,BitVec.toNat_ofNat,Nat.mod_eq_of_lt (show 2 ^ 63<2 ^ 64 by decide),Nat.mod_eq_of_lt (by simpa using hb),UF b hb]
 show IntKind.u64.wrap (((BitVec.ofInt 64 (b:Int) &&& (BitVec.ofInt 64 9223372036854775808)).toNat:Nat):Int)=_
 rw[h]
 rw[show ∀ n:Nat,IntKind.u64.wrap (n:Int)=(n:Int) % 18446744073709551616 by intro n;simp[IntKind.wrap,IntKind.bits,IntKind.signed]]
 omega
theorem dc (a s:Nat) (ha:a<9223372036854775808) (hs:s<2):intBits .or .u64 (a:Int) ((s * 9223372036854775808:Nat):Int)=((a+s * 9223372036854775808:Nat):Int):=by
 have h:(BitVec.ofInt 64 (a:Int) ||| (BitVec.ofInt 64 ((s * 9223372036854775808:Nat):Int))).toNat=a+s * 9223372036854775808:=by
  have e1:∀ b:Nat,BitVec.ofInt 64 (b:Int)=BitVec.ofNat 64 b:=by
   intro b
   apply BitVec.eq_of_toNat_eq
   simp
  rw[e1,e1,BitVec.toNat_or,BitVec.toNat_ofNat,BitVec.toNat_ofNat,Nat.mod_eq_of_lt (by omega),Nat.mod_eq_of_lt (by omega),Nat.or_comm,Nat.mul_comm s,Nat.add_comm a]
  exact (Nat.two_pow_add_eq_or_of_lt (i:=63) (by simpa using ha) s).symm
 show IntKind.u64.wrap (((BitVec.ofInt 64 (a:Int) ||| (BitVec.ofInt 64 ((s * 9223372036854775808:Nat):Int))).toNat:Nat):Int)=_
 rw[h]
 rw[show ∀ n:Nat,IntKind.u64.wrap (n:Int)=(n:Int) % 18446744073709551616 by intro n;simp[IntKind.wrap,IntKind.bits,IntKind.signed]]
 omega
theorem PM (n:Nat) {x s:Nat} (hx:isNaN .f64 x=false) (hs:isNaN .f64 s=false) (hx':x<18446744073709551616) (hs':s<18446744073709551616) :
  (bd (Bu (n+1) x) fun r2=>bd (Bu (n+1) s) fun r4=>bd (Av (n+1) (intBits BinOp.or IntKind.u64 (intBits BinOp.andNot IntKind.u64 r2 (9223372036854775808:Int)) (intBits BinOp.and IntKind.u64 r4 (9223372036854775808:Int)))) fun r6=>some r6)
    = some (x % 9223372036854775808+s / 9223372036854775808 * 9223372036854775808):=by
 have e1:Bu (n+1) x=some (x:Int):=by simp[Bu,hx]
 have e2:Bu (n+1) s=some (s:Int):=by simp[Bu,hs]
 rw[e1,e2]
 show bd (Av (n+1) (intBits BinOp.or IntKind.u64 (intBits BinOp.andNot IntKind.u64 (x:Int) (9223372036854775808:Int)) (intBits BinOp.and IntKind.u64 (s:Int) (9223372036854775808:Int)))) (fun r6=>some r6)=_
 rw[LK,cP _ hs',dc _ _ (Nat.mod_lt _ (by decide)) (by omega)]
 have h2:isNaN .f64 (x % 9223372036854775808+s / 9223372036854775808 * 9223372036854775808)=false:=by
  rw[Ge] at hx ⊢
  rw[Nat.add_mul_mod_self_right,Nat.mod_mod];exact hx
 have e3:Av (n+1) ((x % 9223372036854775808+s / 9223372036854775808 * 9223372036854775808:Nat):Int)=some (x % 9223372036854775808+s / 9223372036854775808 * 9223372036854775808):=by
  show (if 0≤((x % 9223372036854775808+s / 9223372036854775808 * 9223372036854775808:Nat):Int) then some (At .f64 ((x % 9223372036854775808+s / 9223372036854775808 * 9223372036854775808:Nat):Int).toNat) else none)=_
  rw[if_pos (by omega),zT,BA h2]
 rw[e3];rfl
theorem My {P:Program} {E:A4} {f:Nat} (hm:P.follows .mixedOrders=true) (hE:DO P E) (hT:∀ f fd,E.fn f=some fd→Cm P E f fd)
  (n1:∀ x s,isNaN .f64 x=false→isNaN .f64 s=false→x<18446744073709551616→s<18446744073709551616→∃ N,Ak E N f [⟨.val,⟨false,[.leaf],[.flt .f64 x]⟩⟩,⟨.val,⟨false,[.leaf],[.flt .f64 s]⟩⟩]=some ⟨[⟨false,[.leaf],[.flt .f64 (x % 9223372036854775808+s / 9223372036854775808 * 9223372036854775808)]⟩],[none,none]⟩):IC P f EV:=by
 intro as r h w Fz xs mfp hA hn hF
 have hh:=h
 simp only[bY] at h
 split at h
 ·rename_i hv
  generalize ht:(as.flatMap fun a=>a.v.cs)=ts at h
  split at h
  ·simp at h
  ·rename_i rs hrs
   unfold EV at hrs
   split at hrs
   ·rename_i x s
    split at hrs
    ·simp at hrs
    rename_i hs
    split at hrs
    ·simp at hrs
    rename_i hx
    split at hrs
    ·rename_i hb
     cases hrs
     have has:as=[⟨.val,⟨false,[.leaf],[.flt .f64 x]⟩⟩,⟨.val,⟨false,[.leaf],[.flt .f64 s]⟩⟩]:=by
      cases as with
      | nil=>simp at ht
      | cons a as =>
        simp only[all_cons,zB] at hv
        obtain ⟨h1,h2⟩:=hv
        unfold G0 at h1
        split at h1
        ·rename_i t
         simp only[flatMap_cons,cons_append,nil_append,List.cons.injEq] at ht
         obtain ⟨rfl,ht⟩:=ht
         cases as with
         | nil=>simp at ht
         | cons b bs =>
           simp only[all_cons,zB] at h2
           obtain ⟨h3,h4⟩:=h2
           unfold G0 at h3
           split at h3
           ·simp only[flatMap_cons,cons_append,nil_append,List.cons.injEq] at ht
            obtain ⟨rfl,ht⟩:=ht
            cases bs with
            | nil=>rfl
            | cons c cs =>
              simp only[all_cons,zB] at h4
              obtain ⟨h5,-⟩:=h4
              unfold G0 at h5
              split at h5
              ·simp at ht
              ·simp at h5
           ·simp at h3
        ·simp at h1
     subst has
     obtain ⟨N,e⟩:=n1 x s (by simpa using hx) (by simpa using hs) hb.1 hb.2
     have:=J4 hm hE hT N f _ _ e w Fz _ mfp hA hn hF
     rw[← Option.some.inj h]
     simpa using this
    ·simp at hrs
   ·simp at hrs
 ·simp at h
def AL (k:FloatKind) (xs:List Nat):List T:=xs.map (.flt k)
def its (k:IntKind) (xs:List Int):List T:=xs.map (.int k)
def Wk (k:FloatKind) (x:Nat):Prop:=At k x=x∧(Lit.float k x).wf=true
def JS (k:IntKind) (n:Int):Prop:=k.min≤n∧n≤k.max
section
variable {E:A4} {t:Nat} {d:TD} {ts:List T}
theorem WT.slc_inv {e:Nat} (h:WT E t ts) (hd:E.ty t=some d) (hk:d.kd = .slc e):∃ n cs,ts=[.lst n cs]∧n≤maxLen∧WTs E e n cs:=by
 cases h with
 | slc h' hk' hl hs =>
   rw[hd] at h';cases h'
   rw[hk] at hk';cases hk'
   exact ⟨_,_,rfl,hl,hs⟩
 | _ h' hk'=>rw[hd] at h';cases h';rw[hk] at hk';cases hk'
theorem WT.int_inv {k:IntKind} (h:WT E t ts) (hd:E.ty t=some d) (hk:d.kd = .int k):∃ n,ts=[.int k n]∧JS k n:=by
 cases h with
 | int h' hk' h1 h2 =>
   rw[hd] at h';cases h'
   rw[hk] at hk';cases hk'
   exact ⟨_,rfl,h1,h2⟩
 | _ h' hk'=>rw[hd] at h';cases h';rw[hk] at hk';cases hk'
theorem WTs.ints {e n:Nat} {cs:List T} {k:IntKind} (hd:E.ty e=some d) (hk:d.kd = .int k) (h:WTs E e n cs):∃ xs,cs=its k xs∧n=xs.length∧∀ x∈xs,JS k x:=by
 induction n generalizing cs with
 | zero=>cases h;exact ⟨[],rfl,rfl,by simp⟩
 | succ n ih =>
   cases h with
   | snoc h hc =>
     obtain ⟨xs,rfl,rfl,hx⟩:=ih h
     obtain ⟨x,rfl,hg⟩:=hc.int_inv hd hk
     refine ⟨xs++[x],by simp[its],by simp,fun y hy => ?_⟩
     simp only[mem_append,mem_singleton] at hy
     rcases hy with hy | rfl
     ·exact hx y hy
     ·exact hg
end
theorem Ew.cons_inv {E:A4} {t:Nat} {tys:List Nat} {as:List Ae} {d:TD} (hd:E.ty t=some d) (h:Ew E (t::tys) as):∃ ts r,as=⟨.val,⟨d.agg,shares d.own,ts⟩⟩::r∧WT E t ts∧Ew E tys r:=by
 cases h with
 | cons hd' hw r =>
   rw[hd] at hd';cases hd'
   exact ⟨_,_,rfl,hw,r⟩
theorem Ew.nil_inv {E:A4} {as:List Ae} (h:Ew E [] as):as=[]:=by cases h;rfl
theorem Pa (k xs):(AL k xs).length=xs.length:=by simp[AL]
theorem BH {k:FloatKind} {xs:List Nat} {i:Nat} (h:i<xs.length):AI [.flt k] (AL k xs) i=true:=by
 simp[AI,AL,h,MY]
theorem Ot {k:IntKind} {xs:List Int} {i:Nat} (h:i<xs.length):AI [.int k] (its k xs) i=true:=by
 simp[AI,its,h,MY]
theorem Cy {k:FloatKind} {xs:List Nat} {i:Nat}:BR (AL k xs) i=xs.getD i 0:=by
 simp only[BR,AL,List.getElem?_map,List.getD]
 cases xs[i]? <;>rfl
theorem Rq {k:IntKind} {xs:List Int} {i:Nat}:Ed (its k xs) i=xs.getD i 0:=by
 simp only[Ed,its,List.getElem?_map,List.getD]
 cases xs[i]? <;>rfl
theorem Fm (cs:List T) (i:Nat) (t:T):AF cs i [t]=cs.set i t:=rfl
theorem Z6 (n:Nat) (t:T):reps n [t]=List.replicate n t:=by
 induction n with
 | zero=>rfl
 | succ n ih=>rw[RQ,ih];rfl
theorem L2 (k:FloatKind) (n:Nat):reps n [.flt k 0]=AL k (List.replicate n 0):=by
 rw[Z6];simp[AL]
theorem BD {x:Int} (h1 : -9223372036854775808≤x) (h2:x≤9223372036854775807):IntKind.i64.wrap x=x:=by
 rw[IntKind.wrap_i64];omega
theorem AZ {i:Nat} (h:i<9223372036854775807):IntKind.i64.wrap ((i:Int)+1)=((i+1:Nat):Int):=by
 rw[BD] <;>omega
theorem Bf {i n:Nat} (h:i<n):decide ((i:Int)<(n:Int))=true:=by simp;omega
theorem A8 {i n:Nat} (h:n≤i):decide ((i:Int)<(n:Int))=false:=by simp;omega
theorem A1 {i n:Nat} (h:i<n):decide ((0:Int)≤(i:Int)∧(i:Int)<(n:Int))=true:=by simp;omega
theorem Sw (k:FloatKind) (x y:Nat):TG k x y = !Nz k x y:=rfl
theorem DV {x:Nat} {s:Bool} {m:Nat} {e:Int} (h:Ieee.single.read x = .number s m e):m<16777216 ∧ -149≤e∧e≤104:=by
 have hb:Ieee.single.binade=8388608:=rfl
 have hp:Ieee.single.leastPlace = -149:=by decide
 unfold Ieee.Format.read at h
 by_cases c1:x % Ieee.single.signWeight<Ieee.single.binade
 ·simp only[if_pos c1] at h
  cases h
  rw[hb] at c1
  refine ⟨by omega,?_,?_⟩ <;>rw[hp] <;>omega
 ·by_cases c2:x % Ieee.single.signWeight<Ieee.single.infRung
  ·simp only[if_neg c1,if_pos c2] at h
   cases h
   rw[hb,hp]
   rw[PL] at c2
   rw[QY] at c2 ⊢
   refine ⟨by omega,by omega,?_⟩
   omega
  ·by_cases c3:x % Ieee.single.signWeight=Ieee.single.infRung
   ·simp only[if_neg c1,if_neg c2,if_pos c3] at h;cases h
   ·simp only[if_neg c1,if_neg c2,if_neg c3] at h;cases h
theorem Wo {f:Ieee.Format} {s:Bool} {r:Nat} (h:r<f.infRung) (hw:f.infRung<f.signWeight):((f.read (f.word s r)).isInfinity)=false:=by
 have hr:f.word s r % f.signWeight=r:=by
  unfold Ieee.Format.word
  split
  ·rw[Nat.add_mod_left,Nat.mod_eq_of_lt (by omega)]
  ·rw[Nat.mod_eq_of_lt (by omega)]
 simp only[Ieee.Format.read,hr]
 split
 ·rfl
 ·simp only[Ieee.Datum.isInfinity]
theorem XW {s:Bool} {m:Nat} {e:Int} (hm:m<16777216) (h1 : -149≤e) (h2:e≤104):(Ieee.double.read (Ieee.double.nearest s m e)).isInfinity=false:=by
 have hb:Ieee.double.binade=4503599627370496:=rfl
 have hp:Ieee.double.leastPlace = -1074:=by decide
 have hf:(Ieee.double.fractionBits:Int)=52:=rfl
 unfold Ieee.Format.nearest
 split
 ·exact Wo (by rw[Ep];decide) (by rw[Ep,Kg];decide)
 ·rename_i hz
  have hl:m.log2≤23:=by
   have:m.log2<24:=(Nat.log2_lt hz).2 (by omega)
   omega
  have hmax:max (e+(m.log2:Int) - 52) (-1074)=e+(m.log2:Int) - 52:=by omega
  simp only[hf,hp,hmax]
  have e1:(e - (e+(m.log2:Int) - 52)).toNat=52 - m.log2:=by omega
  have e2:(e+(m.log2:Int) - 52 - e).toNat=0:=by omega
  rw[e1,e2]
  have hcut:∀ n,Ieee.Toward.cut .even s n 0=n:=by
   intro n
   simp only[Ieee.Toward.cut,Nat.zero_le,Nat.min_eq_left,Nat.shiftLeft_zero,Nat.div_one,Nat.mod_one]
   rfl
  rw[hcut]
  have hk:m <<< (52 - m.log2)<9007199254740992:=by
   rw[Nat.shiftLeft_eq]
   have h3:m<2 ^ (m.log2+1):=Nat.lt_log2_self
   have h4:(2:Nat) ^ (m.log2+1) * 2 ^ (52 - m.log2)=2 ^ 53:=by
    rw[← Nat.pow_add];congr 1;omega
   calc m * 2 ^ (52 - m.log2)<2 ^ (m.log2+1) * 2 ^ (52 - m.log2):=Nat.mul_lt_mul_of_pos_right h3 (Nat.pow_pos (by decide))
    _=9007199254740992:=by rw[h4]
  have ht:(e+(m.log2:Int) - 52 - -1074).toNat≤1149:=by omega
  have hlt:(e+(m.log2:Int) - 52 - -1074).toNat * Ieee.double.binade+m <<< (52 - m.log2)<Ieee.double.infRung:=by
   rw[hb,Ep]
   omega
  rw[Nat.min_eq_left (Nat.le_of_lt hlt)]
  exact Wo hlt (by rw[Ep,Kg];decide)
def CY (x:Nat):Nat:=match Ar .f32 x .f64 with
 | some y=>y
 | none=>0
theorem Cs (x:Nat):Ar .f32 x .f64=some (CY x):=by
 unfold CY
 have:∃ y,Ar .f32 x .f64=some y:=by
  unfold Ar
  rw[if_neg (by decide)]
  cases h:FloatKind.f32.decode x with
  | nan s t=>exact ⟨_,rfl⟩
  | infinity s=>exact ⟨_,rfl⟩
  | number s m e =>
    obtain ⟨h1,h2,h3⟩:=DV (x:=x) h
    have:=XW (s:=s) h1 h2 h3
    refine ⟨FloatKind.f64.encode (.number s m e),?_⟩
    show (if (FloatKind.f64.decode (FloatKind.f64.encode (.number s m e))).isInfinity=true then none else some _)=some _
    have h4:(FloatKind.f64.decode (FloatKind.f64.encode (.number s m e))).isInfinity=false:=this
    rw[h4];rfl
 obtain ⟨y,hy⟩:=this
 rw[hy]
theorem Z1 {k:FloatKind} {x:Nat} (h:isNaN k x=false):Nz k x x=true:=by
 unfold Nz Ieee.Format.order
 unfold isNaN FloatKind.decode at h
 cases hr:k.format.read x with
 | nan s t=>rw[hr] at h;cases h
 | infinity s=>simp[Ieee.Datum.order]
 | number s m e=>simp[Ieee.Datum.order]
theorem Dj {a b:Nat} (h:a≤b):Nat.ble a b=true:=by rw[Nat.ble_eq];exact h
structure lD (P:Program) (f:Nat) (W:Nat):Prop where
 enter:∀ xs w,(callFunc f xs).run P w = .ok (.enter f xs) w
 same:∀ (w:World) (a:Option Addr) (n cap i:Nat),n≤cap→i≤n→(a=none→n=0∧cap=0)→(∀ x,a=some x→x.spot=none) →
  Calls P f #[.slice a n cap,.int .i64 i,.int .i64 i] w fun e w'=>e = .returned (.slice a n cap)∧w'=w
 move:∀ (w:World) (b off n cap i j:Nat) (vs:List Value),vs.length=n * W→(∀ t u,vs[t]?=some u→w.cell? ⟨b,off+t,none⟩=some u)→(∀ t,t<vs.length→w.frozen? ⟨b,off+t,none⟩=false) →
  (∀ u∈vs,u.oneCell'=true)→n≤cap→i<j→j≤n→∃ zs:List Value,zs.length=(j - i) * W ∧
  Calls P f #[.slice (some ⟨b,off,none⟩) n cap,.int .i64 i,.int .i64 j] w fun e w'=>e = .returned (.slice (some ⟨b,off,none⟩) (n - (j - i)) cap)∧w'=Kt (Kt w.drew b (off+i * W) (vs.drop (j * W))) b (off+(i+(n - j)) * W) zs
theorem R.int_one {w:World} {Fz:Nat→Prop} {Lt:Nat→Nat→Prop} {g:Nat} {k:IntKind} {i:Int} {vs:List Value} {f:Fp} (h:R w Fz Lt g [.leaf] [.int k i] vs f):vs=[.int k i]∧f=[]:=by
 cases h with
 | leaf hl hr =>
   cases hr with
   | nil=>exact ⟨by rw[show _=_ from hl],rfl⟩
structure nF (P:Program) (f:Nat):Prop where
 enter:∀ xs w,(callFunc f xs).run P w = .ok (.enter f xs) w
 none:∀ (w:World) (a:Option Addr) (cap:Nat),Calls P f #[.slice a 0 cap] w fun e w'=>e = .returned (.tuple #[])∧w'=w
 turn:∀ (w:World) (b off n cap:Nat) (vs:List Value),vs.length=n→(∀ t u,vs[t]?=some u→w.cell? ⟨b,off+t,.none⟩=some u)→(∀ t,t<vs.length→w.frozen? ⟨b,off+t,.none⟩=false) →
  (∀ u∈vs,u.oneCell'=true)→n<4611686018427387904 →
  Calls P f #[.slice (some ⟨b,off,.none⟩) n cap] w fun e w'=>e = .returned (.tuple #[])∧∃ q,w'=Kt { w with drawn:=w.drawn+q } b off vs.reverse
def CH {α:Type} (W:Nat):List Bool→List α→List α
 | [],_=>[]
 | true::bs,xs=>CH W bs (xs.drop W)
 | false::bs,xs=>xs.take W++CH W bs (xs.drop W)
def CT:List Bool→Nat
 | []=>0
 | true::bs=>CT bs
 | false::bs=>CT bs+1
theorem OO:∀ bs:List Bool,CT bs≤bs.length
 | []=>Nat.le_refl _
 | true::bs=>Nat.le_succ_of_le (OO bs)
 | false::bs=>Nat.succ_le_succ (OO bs)
theorem Mx {α:Type} {W:Nat}:∀ (bs:List Bool) (xs:List α),xs.length=bs.length * W→(CH W bs xs).length=CT bs * W
 | [],_,_=>by simp[CH,CT]
 | b::bs,xs,h=>by
   have h':(xs.drop W).length=bs.length * W:=by rw[length_drop,h,length_cons,Nat.succ_mul];omega
   have h1:(xs.take W).length=W:=by rw[length_take,h,length_cons,Nat.succ_mul];omega
   cases b
   ·simp only[CH,CT,length_append,h1,Mx bs _ h',Nat.succ_mul];omega
   ·exact Mx bs _ h'
theorem JW {W:Nat} {p:List T→Option Bool}:∀ {n:Nat} {cs:List T} {m:Nat} {ds:List T},Dq W p n cs=some (m,ds) →
  ∃ bs:List Bool,bs.length=n∧m=CT bs∧ds=CH W bs cs∧∀ i b,bs[i]?=some b→p ((cs.drop (i * W)).take W)=some b
 | 0,cs,m,ds,h=>by cases h;exact ⟨[],rfl,rfl,rfl,by simp⟩
 | n+1,cs,m,ds,h=>by
   simp only[Dq] at h
   split at h
   ·cases h
   rename_i b hb
   split at h
   ·cases h
   rename_i m' ds' hm
   obtain ⟨bs,h1,rfl,rfl,h4⟩:=JW hm
   refine ⟨b::bs,by simp[h1],?_⟩
   have hp:∀ i c,(b::bs)[i]?=some c→p ((cs.drop (i * W)).take W)=some c:=by
    intro i c hi
    cases i with
    | zero =>
      simp only[List.getElem?_cons_zero,zS] at hi
      subst hi
      simpa using hb
    | succ i =>
      have:=h4 i c (by simpa using hi)
      rw[drop_drop] at this
      rw[Nat.succ_mul,Nat.add_comm];exact this
   cases b
   ·simp only[zS,zP] at h
    exact ⟨h.1.symm,h.2.symm,hp⟩
   ·simp only[zS,zP] at h
    exact ⟨h.1.symm,h.2.symm,hp⟩
theorem R.keep {w:World} {Fz:Nat→Prop} {Lt:Nat→Nat→Prop} {g:Nat} {el:List Pm}:∀ {bs:List Bool} {cs:List T} {vs:List Value} {f:Fp},R w Fz Lt g (rep bs.length el) cs vs f →
  ∃ f',List.Sublist f' f∧R w Fz Lt g (rep (CT bs) el) (CH el.length bs cs) (CH el.length bs vs) f'
 | [],_,_,_,h=>by cases h;exact ⟨[],List.Sublist.refl _,.nil⟩
 | b::bs,cs,vs,f,h=>by
   rw[length_cons,Dr] at h
   obtain ⟨c1,c2,v1,v2,f1,f2,rfl,rfl,rfl,h1,h2⟩:=h.split
   obtain ⟨f',s,k⟩:=h2.keep (bs:=bs)
   have l1:=h1.length_eq
   cases b
   ·refine ⟨f1++f',List.Sublist.append (List.Sublist.refl _) s,?_⟩
    show R w Fz Lt g (rep (CT bs+1) el) ((c1++c2).take el.length++CH el.length bs ((c1++c2).drop el.length)) ((v1++v2).take el.length++CH el.length bs ((v1++v2).drop el.length)) _
    rw[take_left' l1.1,drop_left' l1.1,take_left' l1.2,drop_left' l1.2,Dr]
    exact h1.append k
   ·refine ⟨f',s.trans (List.sublist_append_right _ _),?_⟩
    show R w Fz Lt g (rep (CT bs) el) (CH el.length bs ((c1++c2).drop el.length)) (CH el.length bs ((v1++v2).drop el.length)) _
    rw[drop_left' l1.1,drop_left' l1.2]
    exact k
theorem R.rowAt {w:World} {Fz:Nat→Prop} {Lt:Nat→Nat→Prop} {g n i:Nat} {el:List Pm} {cs:List T} {vs:List Value} {f:Fp} (h:R w Fz Lt g (rep n el) cs vs f) (hi:i<n) :
  ∃ f',List.Sublist f' f∧R w Fz Lt g el ((cs.drop (i * el.length)).take el.length) ((vs.drop (i * el.length)).take el.length) f' :=by
 rw[show n=i+(1+(n - i - 1)) by omega,Ic,Ic,Dh] at h
 obtain ⟨c1,c23,v1,v23,f1,f23,rfl,rfl,rfl,h1,h23⟩:=h.split
 obtain ⟨c2,c3,v2,v3,f2,f3,rfl,rfl,rfl,h2,h3⟩:=h23.split
 have l1:=h1.length_eq
 have l2:=h2.length_eq
 rw[B8] at l1
 refine ⟨f2,(List.sublist_append_left _ _).trans (List.sublist_append_right _ _),?_⟩
 rw[drop_left' l1.1,drop_left' l1.2,take_left' l2.1,take_left' l2.2]
 exact h2
def ai (P:Program) (fc:Nat) (el ps:List Pm) (pr:List T→List T→Option Bool):Prop :=
 ∀ w Fz row rvs f ts caps b,R w Fz noLt 0 el row rvs f→R w Fz noLt 0 ps ts caps []→pr ts row=some b →
  Calls P fc (#[.agg rvs.toArray]++caps.toArray) w fun e w'=>e = .returned (.bool b)∧Aw w w' (fun _ _=>False)
structure SJ (P:Program) (f W fc:Nat):Prop where
 enter:∀ xs w,(callFunc f xs).run P w = .ok (.enter f xs) w
 none:∀ (w:World) (fv:Value),Calls P f #[.slice .none 0 0,fv] w fun e w'=>e = .returned (.slice .none 0 0)∧Aw w w' (fun _ _=>False)
 run:∀ (w:World) (b off n cap:Nat) (vs:List Value) (caps:Array Value) (bs:List Bool),vs.length=n * W→bs.length=n→(∀ t u,vs[t]?=some u→w.cell? ⟨b,off+t,.none⟩=some u)→(∀ t,t<vs.length→w.frozen? ⟨b,off+t,.none⟩=false) →
  (∀ u∈vs,u.oneCell'=true)→n≤cap→n<4611686018427387904 →
  (∀ i c w',bs[i]?=some c→Aw w w' (fun b' t=>b'=b∧off≤t∧t<off+n * W)→Calls P fc (#[.agg ((vs.drop (i * W)).take W).toArray]++caps) w' fun e w''=>e = .returned (.bool c)∧Aw w' w'' (fun _ _=>False)) →
  Calls P f #[.slice (some ⟨b,off,.none⟩) n cap,.func (.func fc) #[] caps] w fun e w'=>e = .returned (.slice (some ⟨b,off,.none⟩) (CT bs) cap)∧Aw w w' (fun b' t=>b'=b∧off≤t∧t<off+n * W) ∧
   ∀ t u,(CH W bs vs)[t]?=some u→w'.cell? ⟨b,off+t,.none⟩=some u
theorem XA {P:Program} {f fc:Nat} {el ps:List Pm} {pr:List T→List T→Option Bool} (hr:SJ P f el.length fc) (hc:ai P fc el ps pr):Kz P (fun _ as=>G2 fc el ps pr as) f:=by
 intro as r h0 w Fz xs mfp hA hnd hF
 have h:G2 fc el ps pr as=some r:=h0
 clear h0
 unfold G2 at h
 split at h
 case h_2=>cases h
 rename_i el' n cs qs f' ts
 split at h
 case isFalse=>cases h
 rename_i hcond
 obtain ⟨he,hW0,hfirm,rfl,hq,hbig⟩:=hcond
 obtain rfl:=pbeqs_eq he
 obtain rfl:=pbeqs_eq hq
 split at h
 ·cases h
 rename_i m ds hkeep
 simp only[zS] at h
 subst h
 obtain ⟨bs,hbn,rfl,rfl,hflag⟩:=JW hkeep
 cases hA with
 | @io _ x vs f0 _ xs fs hcell hR hA =>
 cases hA with
 | @val _ y vs2 _ xs2 _ hc2 hR2 hA =>
 cases hA with
 | nil =>
 have hcell:vs=[x]:=hcell
 have hc2:vs2=[y]:=hc2
 subst hcell hc2
 have hR2:R w Fz noLt 0 [.fn qs] [.fn f' ts] [y] []:=hR2
 generalize hfp:([]:Fp)=ee at hR2
 cases hR2 with
 | @fnv _ _ _ caps _ _ _ _ hcaps hn2 =>
 cases hn2
 clear hfp
 rw[append_nil] at hnd ⊢
 refine .inr ⟨hr.enter _ _,?_⟩
 show Calls P f #[x,.func (.func f') #[] caps.toArray] w _
 cases hR with
 | slE hq hr2 =>
   cases hr2
   obtain ⟨rfl,rfl⟩:=hq rfl
   obtain rfl:bs=[]:=length_eq_zero_iff.1 hbn
   refine (hr.none w _).mono ?_
   rintro e w' ⟨rfl,hx⟩
   refine ⟨hx.mono (fun _ _ _ h=>h.elim),noLt,0,[[]],[],⟨_,.cons (show AE false _ [_] from rfl) (.slE (fun _=>⟨rfl,rfl⟩) .nil) .nil,rfl⟩,?_,by simp,fun x hx=>by simp at hx⟩
   exact .io (f:=[]) (show AE false _ [_] from rfl) (.dead .nil) (.val .nil)
 | @slO b off _ cap row e fr _ _ vs' _ _ _ fp₁ fp₂ h0 hb hz hl hn hs hr' hf hi r =>
 cases r with
 | nil =>
 have hvl:vs'.length=n * el'.length:=by rw[hi.length_eq.2,B8]
 have hone:=hi.oneCells (RR hfirm)
 have hcap:n * el'.length≤cap * el'.length:=Nat.mul_le_mul_right _ hn
 have hnb:∀ y∈fp₁,y.b≠b:=by
  intro y hy hyb
  simp only[map_cons,nodup_cons,append_nil] at hnd
  exact hnd.1 (mem_map.2 ⟨y,hy,hyb⟩)
 have hturn:∀ {ps ts us g w'},R w Fz noLt 0 ps ts us g→List.Sublist g fp₁→Aw w w' (fun b' t=>b'=b∧off≤t∧t<off+n * el'.length)→R w' Fz noLt 0 ps ts us g:=by
  intro ps ts us g w' h s hx
  exact h.turn hx (fun b' t hb' h=>hz (h.1 ▸ hb')) (Lt' :=noLt) (g' :=0) (.inl ⟨rfl,rfl,fun _ _ h=>h.elim⟩) (fun y hy t _ _ h=>hnb y (s.subset hy) h.1)
 refine (hr.run w b off n cap vs' caps.toArray bs hvl hbn (fun t u hu=>by
   rw[DL hb,← hu,← hs,seg_getElem?,if_pos]
   have:=(List.getElem?_eq_some_iff.1 hu).1
   omega) (fun t ht=>by
   rw[J7 hb]
   have:=hf (off+t) (by omega)
   simp only[Bool.and_eq_false_iff,decide_eq_false_iff_not]
   omega) hone hn hbig (fun i c w' hi' hx=>by
   have hin:i<n:=by rw[← hbn];exact (List.getElem?_eq_some_iff.1 hi').1
   obtain ⟨g,s,hrow⟩:=hi.rowAt hin
   exact hc w' Fz _ _ g ts caps c (hturn hrow s hx) (hturn hcaps (List.nil_sublist _) hx) (hflag i c hi'))).mono ?_
 rintro e' w' ⟨rfl,hx,hcells⟩
 subst hbn
 obtain ⟨f',s1,s2⟩:=hi.keep
 obtain ⟨row1,a1,a2,a3⟩:=hx.cells b row e fr hb
 have hR' :=hturn s2 s1 hx
 have hkl:(CH el'.length bs vs').length=CT bs * el'.length:=Mx bs vs' hvl
 have hkn:=OO bs
 have hkm:CT bs * el'.length≤bs.length * el'.length:=Nat.mul_le_mul_right _ hkn
 have hseg:seg row1 off (CT bs * el'.length)=CH el'.length bs vs' :=by
  apply List.ext_getElem?
  intro t
  rw[seg_getElem?]
  by_cases ht:t<CT bs * el'.length
  ·rw[if_pos ht]
   have h1:(CH el'.length bs vs')[t]?=some ((CH el'.length bs vs')[t]'(by omega)):=List.getElem?_eq_getElem _
   rw[h1,← DL a1]
   exact hcells t _ h1
  ·rw[if_neg ht,List.getElem?_eq_none (by omega)]
 have hown:R _ Fz noLt 0 [.sl .own el'] [.lst (CT bs) (CH el'.length bs cs)] [.slice (some ⟨b,off,none⟩) (CT bs) cap] (⟨b,off,off+(CT bs) * el'.length,off+(CT bs) * el'.length,off+cap * el'.length⟩::f'++[]) :=
  .slO h0 a1 hz (fun _ _ h=>h.elim) (by omega) hseg (by rw[a2];exact hr') hf hR' .nil
 rw[append_nil] at hown
 refine ⟨hx.mono (fun b' t _ h=>⟨_,mem_cons_self ..,h.1.symm,h.2.1,by show t<off+cap * el'.length;omega⟩),noLt,0,[_],[],⟨_,.cons (show AE false _ [_] from rfl) hown .nil,rfl⟩,.io (f:=[]) (show AE false _ [_] from rfl) (.dead .nil) (.val .nil),?_,?_⟩
 ·simp only[flatten_cons,flatten_nil,append_nil,map_cons,nodup_cons]
  simp only[map_cons,nodup_cons,append_nil] at hnd
  exact ⟨fun h=>hnd.1 ((s1.map Fe.b).subset h),hnd.2.sublist (s1.map Fe.b)⟩
 ·intro y hy
  simp only[flatten_cons,flatten_nil,append_nil,mem_cons] at hy
  rcases hy with rfl | hy
  ·exact .inr ⟨_,mem_cons_self ..,rfl,Nat.le_refl _,Nat.le_refl _⟩
  ·exact .inr ⟨y,mem_cons_of_mem _ (by simpa using s1.subset hy),rfl,Nat.le_refl _,Nat.le_refl _⟩
structure mc (P:Program) (f:Nat) (W:Nat):Prop where
 enter:∀ xs w,(callFunc f xs).run P w = .ok (.enter f xs) w
 run:∀ (w:World) (b off n cap i vb voff vc:Nat) (vs us:List Value) (row vrow:Array Value) (e ve:TypeId) (fr vfr:Nat × Nat),
  w.heap[b]?=some (.cells row e fr)→w.heap[vb]?=some (.cells vrow ve vfr)→vb≠b→off+cap * W≤row.size→voff+W≤vrow.size →
  seg row off (n * W)=vs→seg vrow voff W=us→(∀ u∈vs,u.oneCell'=true)→(∀ u∈us,u.oneCell'=true) →
  (∀ j,off≤j→¬ (fr.1≤j∧j<fr.2))→(∀ j,voff≤j→¬ (vfr.1≤j∧j<vfr.2)) →
  0<n→n≤cap→i≤n→n<1000000→1≤vc →
  Calls P f #[.slice (some ⟨b,off,none⟩) n cap,.int .i64 i,.slice (some ⟨vb,voff,none⟩) 1 vc] w fun x w'=>∃ b' off' cap',x = .returned (.slice (some ⟨b',off',none⟩) (n+1) cap')∧n+1≤cap' ∧
   ∃ row' e' fr',w'.heap[b']?=some (.cells row' e' fr')∧off'+cap' * W≤row'.size∧seg row' off' ((n+1) * W)=vs.take (i * W)++us++vs.drop (i * W)∧(∀ j,off'≤j→¬ (fr'.1≤j∧j<fr'.2)) ∧
    ((b'=b∧off'=off∧cap'=cap∧Aw w w' (fun b1 t=>b1=b∧off≤t∧t<off+cap * W))∨(w.heap.size≤b'∧Aw w w' (fun _ _=>False)))
end Go.Desk
end
