/- A reading of the loaded code over plain data, and its soundness (part 4 of 4). Own work of this workplace, put together by program. -/
import Derived.Test.YtdobhipbgpiceaaKernC
set_option linter.all false
section
namespace Go.Desk
open Go
def keepL {α:Type} (W:Nat):List Bool→List α→List α
 | [],_=>[]
 | true::bs,xs=>keepL W bs (xs.drop W)
 | false::bs,xs=>xs.take W++keepL W bs (xs.drop W)
def keptN:List Bool→Nat
 | []=>0
 | true::bs=>keptN bs
 | false::bs=>keptN bs+1
theorem keptN_le:∀ bs:List Bool,keptN bs≤bs.length
 | []=>Nat.le_refl _
 | true::bs=>Nat.le_succ_of_le (keptN_le bs)
 | false::bs=>Nat.succ_le_succ (keptN_le bs)
theorem keepL_len {α:Type} {W:Nat}:∀ (bs:List Bool) (xs:List α),xs.length=bs.length * W→(keepL W bs xs).length=keptN bs * W
 | [],_,_=>by simp[keepL,keptN]
 | b::bs,xs,h=>by
   have h':(xs.drop W).length=bs.length * W:=by rw[List.length_drop,h,List.length_cons,Nat.succ_mul];omega
   have h1:(xs.take W).length=W:=by rw[List.length_take,h,List.length_cons,Nat.succ_mul];omega
   cases b
   ·simp only[keepL,keptN,List.length_append,h1,keepL_len bs _ h',Nat.succ_mul];omega
   ·exact keepL_len bs _ h'
theorem keepRows_flags {W:Nat} {p:List T→Option Bool}:∀ {n:Nat} {cs:List T} {m:Nat} {ds:List T},keepRows W p n cs=some (m,ds) →
  ∃ bs:List Bool,bs.length=n∧m=keptN bs∧ds=keepL W bs cs∧∀ i b,bs[i]?=some b→p ((cs.drop (i * W)).take W)=some b
 | 0,cs,m,ds,h=>by cases h;exact ⟨[],rfl,rfl,rfl,by simp⟩
 | n+1,cs,m,ds,h=>by
   simp only[keepRows] at h
   split at h
   ·cases h
   rename_i b hb
   split at h
   ·cases h
   rename_i m' ds' hm
   obtain ⟨bs,h1,rfl,rfl,h4⟩:=keepRows_flags hm
   refine ⟨b::bs,by simp[h1],?_⟩
   have hp:∀ i c,(b::bs)[i]?=some c→p ((cs.drop (i * W)).take W)=some c:=by
    intro i c hi
    cases i with
    | zero =>
      simp only[List.getElem?_cons_zero,Option.some.injEq] at hi
      subst hi
      simpa using hb
    | succ i =>
      have:=h4 i c (by simpa using hi)
      rw[List.drop_drop] at this
      rw[Nat.succ_mul,Nat.add_comm];exact this
   cases b
   ·simp only[Option.some.injEq,Prod.mk.injEq] at h
    exact ⟨h.1.symm,h.2.symm,hp⟩
   ·simp only[Option.some.injEq,Prod.mk.injEq] at h
    exact ⟨h.1.symm,h.2.symm,hp⟩
theorem R.keep {w:World} {Fz:Nat→Prop} {Lt:Nat→Nat→Prop} {g:Nat} {el:List Pm}:∀ {bs:List Bool} {cs:List T} {vs:List Value} {f:Fp},R w Fz Lt g (rep bs.length el) cs vs f →
  ∃ f',List.Sublist f' f∧R w Fz Lt g (rep (keptN bs) el) (keepL el.length bs cs) (keepL el.length bs vs) f'
 | [],_,_,_,h=>by cases h;exact ⟨[],List.Sublist.refl _,.nil⟩
 | b::bs,cs,vs,f,h=>by
   rw[List.length_cons,rep_succ] at h
   obtain ⟨c1,c2,v1,v2,f1,f2,rfl,rfl,rfl,h1,h2⟩:=h.split
   obtain ⟨f',s,k⟩:=h2.keep (bs:=bs)
   have l1:=h1.length_eq
   cases b
   ·refine ⟨f1++f',List.Sublist.append (List.Sublist.refl _) s,?_⟩
    show R w Fz Lt g (rep (keptN bs+1) el) ((c1++c2).take el.length++keepL el.length bs ((c1++c2).drop el.length)) ((v1++v2).take el.length++keepL el.length bs ((v1++v2).drop el.length)) _
    rw[List.take_left' l1.1,List.drop_left' l1.1,List.take_left' l1.2,List.drop_left' l1.2,rep_succ]
    exact h1.append k
   ·refine ⟨f',s.trans (List.sublist_append_right _ _),?_⟩
    show R w Fz Lt g (rep (keptN bs) el) (keepL el.length bs ((c1++c2).drop el.length)) (keepL el.length bs ((v1++v2).drop el.length)) _
    rw[List.drop_left' l1.1,List.drop_left' l1.2]
    exact k
theorem R.rowAt {w:World} {Fz:Nat→Prop} {Lt:Nat→Nat→Prop} {g n i:Nat} {el:List Pm} {cs:List T} {vs:List Value} {f:Fp} (h:R w Fz Lt g (rep n el) cs vs f) (hi:i<n) :
  ∃ f',List.Sublist f' f∧R w Fz Lt g el ((cs.drop (i * el.length)).take el.length) ((vs.drop (i * el.length)).take el.length) f' :=by
 rw[show n=i+(1+(n - i - 1)) by omega,rep_add,rep_add,rep_one] at h
 obtain ⟨c1,c23,v1,v23,f1,f23,rfl,rfl,rfl,h1,h23⟩:=h.split
 obtain ⟨c2,c3,v2,v3,f2,f3,rfl,rfl,rfl,h2,h3⟩:=h23.split
 have l1:=h1.length_eq
 have l2:=h2.length_eq
 rw[rep_length] at l1
 refine ⟨f2,(List.sublist_append_left _ _).trans (List.sublist_append_right _ _),?_⟩
 rw[List.drop_left' l1.1,List.drop_left' l1.2,List.take_left' l2.1,List.take_left' l2.2]
 exact h2
def CloOk (P:Program) (fc:Nat) (el ps:List Pm) (pr:List T→List T→Option Bool):Prop :=
 ∀ w Fz row rvs f ts caps b,R w Fz noLt 0 el row rvs f→R w Fz noLt 0 ps ts caps []→pr ts row=some b →
  Calls P fc (#[.agg rvs.toArray]++caps.toArray) w fun e w'=>e = .returned (.bool b)∧Ext w w' (fun _ _=>False)
structure DelFRun (P:Program) (f W fc:Nat):Prop where
 enter:∀ xs w,(callFunc f xs).run P w = .ok (.enter f xs) w
 none:∀ (w:World) (fv:Value),Calls P f #[.slice .none 0 0,fv] w fun e w'=>e = .returned (.slice .none 0 0)∧Ext w w' (fun _ _=>False)
 run:∀ (w:World) (b off n cap:Nat) (vs:List Value) (caps:Array Value) (bs:List Bool),vs.length=n * W→bs.length=n→(∀ t u,vs[t]?=some u→w.cell? ⟨b,off+t,.none⟩=some u)→(∀ t,t<vs.length→w.frozen? ⟨b,off+t,.none⟩=false) →
  (∀ u∈vs,u.oneCell'=true)→n≤cap→n<4611686018427387904 →
  (∀ i c w',bs[i]?=some c→Ext w w' (fun b' t=>b'=b∧off≤t∧t<off+n * W)→Calls P fc (#[.agg ((vs.drop (i * W)).take W).toArray]++caps) w' fun e w''=>e = .returned (.bool c)∧Ext w' w'' (fun _ _=>False)) →
  Calls P f #[.slice (some ⟨b,off,.none⟩) n cap,.func (.func fc) #[] caps] w fun e w'=>e = .returned (.slice (some ⟨b,off,.none⟩) (keptN bs) cap)∧Ext w w' (fun b' t=>b'=b∧off≤t∧t<off+n * W) ∧
   ∀ t u,(keepL W bs vs)[t]?=some u→w'.cell? ⟨b,off+t,.none⟩=some u
theorem delf_ok {P:Program} {f fc:Nat} {el ps:List Pm} {pr:List T→List T→Option Bool} (hr:DelFRun P f el.length fc) (hc:CloOk P fc el ps pr):FnOk P (fun _ as=>delFH fc el ps pr as) f:=by
 intro as r h0 w Fz xs mfp hA hnd hF
 have h:delFH fc el ps pr as=some r:=h0
 clear h0
 unfold delFH at h
 split at h
 case h_2=>cases h
 rename_i el' n cs qs f' ts
 split at h
 case isFalse=>cases h
 rename_i hcond
 obtain ⟨he,hW0,hfirm,rfl,hq,hbig⟩:=hcond
 obtain rfl:=pbeqs_eq he
 obtain rfl:=pbeqs_eq hq
 split at h
 ·cases h
 rename_i m ds hkeep
 simp only[Option.some.injEq] at h
 subst h
 obtain ⟨bs,hbn,rfl,rfl,hflag⟩:=keepRows_flags hkeep
 cases hA with
 | @io _ x vs f0 _ xs fs hcell hR hA =>
 cases hA with
 | @val _ y vs2 _ xs2 _ hc2 hR2 hA =>
 cases hA with
 | nil =>
 have hcell:vs=[x]:=hcell
 have hc2:vs2=[y]:=hc2
 subst hcell hc2
 have hR2:R w Fz noLt 0 [.fn qs] [.fn f' ts] [y] []:=hR2
 generalize hfp:([]:Fp)=ee at hR2
 cases hR2 with
 | @fnv _ _ _ caps _ _ _ _ hcaps hn2 =>
 cases hn2
 clear hfp
 rw[List.append_nil] at hnd ⊢
 refine .inr ⟨hr.enter _ _,?_⟩
 show Calls P f #[x,.func (.func f') #[] caps.toArray] w _
 cases hR with
 | slE hq hr2 =>
   cases hr2
   obtain ⟨rfl,rfl⟩:=hq rfl
   obtain rfl:bs=[]:=List.length_eq_zero_iff.1 hbn
   refine (hr.none w _).mono ?_
   rintro e w' ⟨rfl,hx⟩
   refine ⟨hx.mono (fun _ _ _ h=>h.elim),noLt,0,[[]],[],⟨_,.cons (show CellsOf false _ [_] from rfl) (.slE (fun _=>⟨rfl,rfl⟩) .nil) .nil,rfl⟩,?_,by simp,fun x hx=>by simp at hx⟩
   exact .io (f:=[]) (show CellsOf false _ [_] from rfl) (.dead .nil) (.val .nil)
 | @slO b off _ cap row e fr _ _ vs' _ _ _ fp₁ fp₂ h0 hb hz hl hn hs hr' hf hi r =>
 cases r with
 | nil =>
 have hvl:vs'.length=n * el'.length:=by rw[hi.length_eq.2,rep_length]
 have hone:=hi.oneCells (firms_rep hfirm)
 have hcap:n * el'.length≤cap * el'.length:=Nat.mul_le_mul_right _ hn
 have hnb:∀ y∈fp₁,y.b≠b:=by
  intro y hy hyb
  simp only[List.map_cons,List.nodup_cons,List.append_nil] at hnd
  exact hnd.1 (List.mem_map.2 ⟨y,hy,hyb⟩)
 have hturn:∀ {ps ts us g w'},R w Fz noLt 0 ps ts us g→List.Sublist g fp₁→Ext w w' (fun b' t=>b'=b∧off≤t∧t<off+n * el'.length)→R w' Fz noLt 0 ps ts us g:=by
  intro ps ts us g w' h s hx
  exact h.turn hx (fun b' t hb' h=>hz (h.1 ▸ hb')) (Lt' :=noLt) (g' :=0) (.inl ⟨rfl,rfl,fun _ _ h=>h.elim⟩) (fun y hy t _ _ h=>hnb y (s.subset hy) h.1)
 refine (hr.run w b off n cap vs' caps.toArray bs hvl hbn (fun t u hu=>by
   rw[cell_at hb,← hu,← hs,seg_getElem?,if_pos]
   have:=(List.getElem?_eq_some_iff.1 hu).1
   omega) (fun t ht=>by
   rw[frozen_at hb]
   have:=hf (off+t) (by omega) (by omega)
   simp only[Bool.and_eq_false_iff,decide_eq_false_iff_not]
   omega) hone hn hbig (fun i c w' hi' hx=>by
   have hin:i<n:=by rw[← hbn];exact (List.getElem?_eq_some_iff.1 hi').1
   obtain ⟨g,s,hrow⟩:=hi.rowAt hin
   exact hc w' Fz _ _ g ts caps c (hturn hrow s hx) (hturn hcaps (List.nil_sublist _) hx) (hflag i c hi'))).mono ?_
 rintro e' w' ⟨rfl,hx,hcells⟩
 subst hbn
 obtain ⟨f',s1,s2⟩:=hi.keep
 obtain ⟨row1,a1,a2,a3⟩:=hx.cells b row e fr hb
 have hR' :=hturn s2 s1 hx
 have hkl:(keepL el'.length bs vs').length=keptN bs * el'.length:=keepL_len bs vs' hvl
 have hkn:=keptN_le bs
 have hkm:keptN bs * el'.length≤bs.length * el'.length:=Nat.mul_le_mul_right _ hkn
 have hseg:seg row1 off (keptN bs * el'.length)=keepL el'.length bs vs' :=by
  apply List.ext_getElem?
  intro t
  rw[seg_getElem?]
  by_cases ht:t<keptN bs * el'.length
  ·rw[if_pos ht]
   have h1:(keepL el'.length bs vs')[t]?=some ((keepL el'.length bs vs')[t]'(by omega)):=List.getElem?_eq_getElem _
   rw[h1,← cell_at a1]
   exact hcells t _ h1
  ·rw[if_neg ht,List.getElem?_eq_none (by omega)]
 have hown:R _ Fz noLt 0 [.sl .own el'] [.lst (keptN bs) (keepL el'.length bs cs)] [.slice (some ⟨b,off,none⟩) (keptN bs) cap] (⟨b,off,off+(keptN bs) * el'.length,off+(keptN bs) * el'.length,off+cap * el'.length⟩::f'++[]) :=
  .slO h0 a1 hz (fun _ _ h=>h.elim) (by omega) hseg (by rw[a2];exact hr') hf hR' .nil
 rw[List.append_nil] at hown
 refine ⟨hx.mono (fun b' t _ h=>⟨_,List.mem_cons_self ..,h.1.symm,h.2.1,by show t<off+cap * el'.length;omega⟩),noLt,0,[_],[],⟨_,.cons (show CellsOf false _ [_] from rfl) hown .nil,rfl⟩,.io (f:=[]) (show CellsOf false _ [_] from rfl) (.dead .nil) (.val .nil),?_,?_⟩
 ·simp only[List.flatten_cons,List.flatten_nil,List.append_nil,List.map_cons,List.nodup_cons]
  simp only[List.map_cons,List.nodup_cons,List.append_nil] at hnd
  exact ⟨fun h=>hnd.1 ((s1.map Fe.b).subset h),hnd.2.sublist (s1.map Fe.b)⟩
 ·intro y hy
  simp only[List.flatten_cons,List.flatten_nil,List.append_nil,List.mem_cons] at hy
  rcases hy with rfl | hy
  ·exact .inr ⟨_,List.mem_cons_self ..,rfl,Nat.le_refl _,Nat.le_refl _⟩
  ·exact .inr ⟨y,List.mem_cons_of_mem _ (by simpa using s1.subset hy),rfl,Nat.le_refl _,Nat.le_refl _⟩
end Go.Desk
end
