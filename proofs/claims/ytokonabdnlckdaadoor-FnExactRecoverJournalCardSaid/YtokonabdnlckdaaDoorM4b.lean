/- FnExactRecoverJournal holds: for every input the law returns true, and its arguments read as before; what its row lists is tied to the text. -/
import Derived.Test.YtokonabdnlckdaaDoorM4a
set_option linter.all false
set_option linter.unusedVariables false
open List (all_cons all_eq_true any_eq_false any_eq_true append_assoc append_nil cons_append count_append drop_drop drop_eq_getElem_cons drop_eq_nil_of_le drop_left' drop_zero flatMap_cons flatMap_def flatten_cons foldl_cons length_append length_cons length_eq_one_iff length_eq_zero_iff length_map length_nil length_singleton length_take mapM_cons map_append map_congr_left map_cons map_map map_nil mem_append mem_append_left mem_append_right mem_cons mem_cons_of_mem mem_cons_self mem_flatten mem_map mem_singleton nil_append nodup_append nodup_cons perm_append_comm perm_iff_count perm_middle replicate_succ take_append_drop take_left' take_length take_succ_cons take_zero)
section
namespace Go.Desk
open Go
section
variable {C:BU} {w w':World} {a a':Act} {σ:AS} {Lt Lt':Nat→Nat→Prop} {cv cv':Nat→Value} {fp fpU:Nat→Fp} {g g':Nat} {env':List (Nat × AA)} {o:Oper} {Fz:Nat→Prop}
theorem AC.trans {w1 w2 w3:World} {v1 v2 v3:Value} {s1 s2 s3:AA} (h:AC w1 w2 v1 s1 v2 s2) (k:AC w2 w3 v2 s2 v3 s3):AC w1 w3 v1 s1 v3 s3 :=
 ⟨fun pl u hv=>k.1 pl u (h.1 pl u hv),fun pl u hv=>k.2 pl u (h.2 pl u hv)⟩
theorem AR.quiet {env:List (Nat × AA)} {k:Nat} {s:AA} {f:Fp} (h:AR C w Lt g cv env k f s) (hl:s.looks=[]) (hx:Ab w w' (fun _ _=>False)):AR C w' Lt g cv env k f s :=
 h.mono (W:=fun _ _=>False) hx rfl (fun _ _ _ _ _=>rfl)
  (fun _ _ _ hR=>hR.mono hx (fun _ h=>h) (fun _ _ h=>h) (by simp) (by simp) (fun x hx'=>⟨by simp,(hR.lt x hx').2.2.2,hR.noLtAbove x hx'⟩))
  (by simp) (by simp[hl])
theorem FA.slot' {f fr:Fp} {k:Nat} {s:AA} (h:FA C w σ Lt cv fp f k s fr) (hx:Ab w w' (fun _ _=>False)) (cv':Nat→Value) (env':List (Nat × AA)) (hc:cv' k=cv k):AR C w' Lt σ.g cv' env' k fr s :=
 (h.slot cv' env' hc).quiet h.looks hx
theorem FA.keep' {f fr:Fp} {k:Nat} {s:AA} (h:FA C w σ Lt cv fp f k s fr) (hx:Ab w w' (fun _ _=>False)) (hs:AI (AE σ.env k)) :
  AC w w' (cv k) (AE σ.env k) (cv k) s∧AI s:=by
 obtain ⟨h1,h2⟩:=h.keep hs
 exact ⟨h1.trans (AC.same (h.slot cv σ.env rfl) hx (by simp)),h2⟩
theorem BN (t i:Nat):1000000≤AF t i:=by unfold AF;omega
theorem AN.made {v:Value} {s:AA} {f:Fp} {us:List (Nat × AA)} {ft fr:Nat→Fp} (H:DT C o w a σ Lt cv fp) (hx:Ab w w' (fun _ _=>False))
  (hr:(execOp a.eval o).run C.P w = .ok (.value v) w') (hna:AH o.op=false)
  (hs:∀ cv' env' d,cv' d=v→AR C w' Lt σ.g cv' env' d f s) (hroot:s.root≠none) (hlk:s.looks=[])
  (hfr:Av o σ (AL o s++us)) (hnd:(us.map (·.1)).Nodup)
  (hus:∀ k t,(k,t)∈us→FA C w σ Lt cv fp (ft k) k t (fr k))
  (hfn:(f.map Fe.b).Nodup)
  (hf:∀ x∈f,w.heap.size≤x.b∨∃ k∈us.map (·.1),x∈ft k) :
  AN C o a w ⟨Ae (AL o s++us) σ.env,σ.g⟩:=by
 have hst:=H.st
 refine AN.value hr ⟨by rw[Act.put_defers'];exact H.df,?_⟩
 have hfree:∀ k,∀ x∈fp k,(∀ j,x.lo≤j→(j<x.hi∨j=x.lo)→¬ (fun _ _=>False:Nat→Nat→Prop) x.b j)∧∀ j,x.l≤j→¬ Lt x.b j:=fun k x hx'=>⟨by simp,(hst.slots k).noLt hx'⟩
 have hlt:∀ b j,Lt b j→b<w'.heap.size:=fun b j hb=>by have:=hst.lt b j hb;have:=hx.size;omega
 have hdis2:∀ j∈us.map (·.1),∀ k∈us.map (·.1),j≠k→∀ x∈fr j,∀ y∈fr k,x.b≠y.b:=by
  intro j hj k hk hjk x hx' y hy
  obtain ⟨⟨j,t⟩,hjm,rfl⟩:=mem_map.1 hj
  obtain ⟨⟨k,t'⟩,hkm,rfl⟩:=mem_map.1 hk
  exact hst.disj j k hjk x ((hus j t hjm).rest x hx') y ((hus k t' hkm).rest y hy)
 have hent:∀ (val:Nat→Value) (cv':Nat→Value) (env':List (Nat × AA)) (U:List (Nat × AA)),(∀ u∈us,u∈U)→∀ k t,(k,t)∈us→val k=cv k→cv' k=cv k →
   AR C w' Lt σ.g cv' env' k (fr k) t∧((fr k).map Fe.b).Nodup ∧
    (∀ k'∈t.looks,k'<1000000∧AI (AE env' k')) ∧
    (k<1000000→AI (AE σ.env k)→AC w w' (cv k) (AE σ.env k) (val k) t∧AI t) ∧
    (∀ x∈fr k,w.heap.size≤x.b∨∃ k0∈U.map (·.1),∃ y∈fp k0,y.b=x.b∧y.lo≤x.lo∧x.t≤y.t):=by
  intro val cv' env' U hU k t hm h1 h2
  have hl:=hus k t hm
  refine ⟨hl.slot' hx _ _ h2,?_,by rw[hl.looks];simp,fun _ hs=>by rw[h1];exact hl.keep' hx hs,fun x hx' => .inr ⟨k,mem_map.2 ⟨_,hU _ hm,rfl⟩,x,hl.rest x hx',rfl,Nat.le_refl _,Nat.le_refl _⟩⟩
  have:=hl.nodup
  rw[map_append,nodup_append] at this
  exact this.2.1
 cases hdst:o.dst with
 | none =>
   simp only[AL,hdst,nil_append,Act.put]
   obtain ⟨fp',h'⟩:=hst.many (W:=fun _ _=>False) (w' :=w') (g' :=σ.g) (Lt' :=Lt) (a' :=a) us cv fr hx (by simp) (.inl ⟨rfl,fun _ _ h=>h,by simp⟩) hnd
    (fun k hk=>by rw[← hst.tmps k hk];split <;>rfl) hst.size (fun k _=>⟨fun _ _ _ _ _ _=>rfl,hfree k⟩)
    (fun k t hm=>hent cv _ _ us (fun _ h=>h) k t hm rfl (by simp)) hdis2 hlt
   exact ⟨Lt,_,fp',h'⟩
 | some d =>
   have hd:(d:Nat)<a.tmps.size:=H.dst d hdst
   have hdl:AL o s++us=(d,s)::us:=by simp[AL,hdst]
   rw[hdl] at hfr ⊢
   have hds:=hst.size
   obtain ⟨-,h2⟩:=B9 (s:=s) (hfr d hdst) hdst (by simp[AE])
   rw[hna] at h2
   have hfresh:A0 (AE σ.env d)=true:=by
    rcases h2 with h2 | h2 | h2
    ·simp at h2
    ·exact h2
    ·exact absurd h2 hroot
   have hdn:d ∉ us.map (·.1):=by
    intro hm
    obtain ⟨⟨k,t⟩,hm2,e⟩:=mem_map.1 hm
    simp only at e
    have:=(hus k t hm2).old
    rw[e,hfresh] at this
    simp at this
   have hnd':(((d,s)::us).map (·.1)).Nodup:=by simp only[map_cons,nodup_cons];exact ⟨hdn,hnd⟩
   have hne:∀ k,k∈us.map (·.1)→k≠d:=fun k hk e=>hdn (e ▸ hk)
   obtain ⟨fp',h'⟩:=hst.many (W:=fun _ _=>False) (w' :=w') (g' :=σ.g) (Lt' :=Lt) (a' :=a.put (some d) v) ((d,s)::us) (fun k=>if k=d then v else cv k) (fun k=>if k=d then f else fr k) hx (by simp) (.inl ⟨rfl,fun _ _ h=>h,by simp⟩) hnd'
    (fun k hk=>by
      rw[EX a d k v hd,← hst.tmps k hk]
      simp only[map_cons,mem_cons]
      by_cases hkd:k=d
      ·simp[hkd]
      ·simp[hkd]) (by rw[EW];exact hst.size)
    (fun k hk=>⟨fun _ _ _ i _ hi=>by
      have h1:=BN k i
      have h2:¬ (AF k i=d):=by
       intro e
       rw[e] at h1
       exact absurd (Nat.lt_of_lt_of_le hd hds) (Nat.not_lt.2 h1)
      exact if_neg h2,hfree k⟩)
    (fun k t hm=>by
      rcases mem_cons.1 hm with hm | hm
      ·obtain ⟨rfl,rfl⟩:k=d∧t=s:=by simpa using hm
       simp only[if_true]
       refine ⟨hs _ _ _ (by simp),hfn,by rw[hlk];simp,fun _ hs=>absurd hs (Aq hfresh),fun x hx' => ?_⟩
       rcases hf x hx' with h | ⟨k0,hk0,hx0⟩
       ·exact .inl h
       ·obtain ⟨⟨k0,t0⟩,hm0,rfl⟩:=mem_map.1 hk0
        exact .inr ⟨k0,by simp[hk0],x,(hus k0 t0 hm0).took x hx0,rfl,Nat.le_refl _,Nat.le_refl _⟩
      ·have hkm:k∈us.map (·.1):=mem_map.2 ⟨_,hm,rfl⟩
       have hkd:=hne k hkm
       simp only[if_neg hkd]
       have:=hent cv (fun k'=>if k'∈((d,s)::us).map (·.1) then if k'=d then v else cv k' else cv k') (Ae ((d,s)::us) σ.env) ((d,s)::us) (fun _ h=>mem_cons_of_mem _ h) k t hm rfl (by simp[hkd])
       exact this)
    (fun j hj k hk hjk x hx' y hy=>by
      simp only[map_cons,mem_cons] at hj hk
      have key:∀ k∈us.map (·.1),∀ x∈f,∀ y∈fr k,x.b≠y.b:=by
       intro k hk x hx' y hy e
       obtain ⟨⟨k,t⟩,hm,rfl⟩:=mem_map.1 hk
       have hl:=hus k t hm
       rcases hf x hx' with h | ⟨k0,hk0,hx0⟩
       ·have:=((hst.slots k).inHeap (hl.rest y hy)).1
        omega
       ·obtain ⟨⟨k0,t0⟩,hm0,rfl⟩:=mem_map.1 hk0
        obtain ⟨hkk,-⟩:=hst.same ((hus k0 t0 hm0).took x hx0) (hl.rest y hy) e
        simp only at hkk hx0
        subst hkk
        have:=hl.nodup
        rw[map_append,nodup_append] at this
        exact this.2.2 _ (mem_map.2 ⟨x,hx0,rfl⟩) _ (mem_map.2 ⟨y,hy,rfl⟩) e
      by_cases hjd:j=d
      ·by_cases hkd:k=d
       ·exact absurd (hjd.trans hkd.symm) hjk
       ·rw[if_pos hjd] at hx'
        rw[if_neg hkd] at hy
        exact key k (hk.resolve_left hkd) x hx' y hy
      ·rw[if_neg hjd] at hx'
       by_cases hkd:k=d
       ·rw[if_pos hkd] at hy
        exact fun e=>key j (hj.resolve_left hjd) y hy x hx' e.symm
       ·rw[if_neg hkd] at hy
        exact hdis2 j (hj.resolve_left hjd) k (hk.resolve_left hkd) hjk x hx' y hy) hlt
   exact ⟨Lt,_,fp',h'⟩
theorem GR {P:Program} {E:AX} {t:Nat} {d:TD} (h:GN P E t d):∃ z,(zeroValue t).run P w = .ok z w∧Ck z.cells.toList=some d.zero:=by
 obtain ⟨i,z,h1,h2,h3,h4,h5,h6⟩:=h.info
 exact ⟨z,by simp[zeroValue,typeInfo,h1,h4],h5⟩
theorem GC (o:Obj):(w.alloc o).heap[w.heap.size]?=some o:=by
 show (w.heap.push o)[w.heap.size]?=some o
 simp
theorem G3 (h:BY C w a σ Lt cv fp):¬ C.Fz w.heap.size:=fun hz=>by have:=(h.fz _ hz).1;have:=h.ext.size;omega
theorem Gv (h:BY C w a σ Lt cv fp) (j:Nat):¬ Lt w.heap.size j:=fun hz=>by have:=h.lt _ _ hz;omega
theorem H1 (l:List Value):seg l.toArray 0 l.length=l:=by simp[seg]
theorem OJ (h:BY C w a σ Lt cv fp) {g:Nat} {el:List Pm} {cs:List T} {vs:List Value} {f:Fp} {e:TypeId} (hp:0<el.length) (hR:R w C.Fz Lt g el cs vs f) :
  R (w.alloc (.cells vs.toArray e)) C.Fz Lt g [.rf .own el] [.ref cs] [.pointer (some ⟨w.heap.size,0,none⟩)] (⟨w.heap.size,0,el.length,0,el.length⟩::f):=by
 have hx:Ab w (w.alloc (.cells vs.toArray e)) (fun _ _=>False):=Ab.alloc w _ _
 have:=R.rfO (b:=w.heap.size) (off:=0) hp (GC _) (G3 h) (Gv h) (by rw[← hR.length_eq.2];exact H1 vs) (by simp[hR.length_eq.2]) (by simp)
  (hR.mono hx (fun _ h=>h) (fun _ _ h=>h) (by simp) (by simp) (fun x hx'=>⟨by simp,(hR.lt x hx').2.2.2,hR.noLtAbove x hx'⟩)) (R.nil (w:=w.alloc (.cells vs.toArray e)) (Fz:=C.Fz) (Lt:=Lt) (g:=g))
 simpa using this
theorem MP (h:BY C w a σ Lt cv fp) {x:Fe} {k:Nat} (hx:x∈fp k):x.b≠w.heap.size:=by
 have:=((h.slots k).inHeap hx).1
 omega
theorem Nr (H:DT C o w a σ Lt cv fp) {t:TypeId} (hop:o.op = .alloc t) {d:TD} (hd:C.E.ty t=some d)
  (hfr:Av o σ (AL o (.box d.own d.zero [] 0))):AN C o a w ⟨Ae (AL o (.box d.own d.zero [] 0)) σ.env,σ.g⟩:=by
 have hT:=H.ty t d hd
 obtain ⟨z,hz1,hz2⟩:=GR (w:=w) hT
 have hR:=A2 (w:=w) (Fz:=C.Fz) (Lt:=Lt) (g:=σ.g) hz2 hT.fit
 have hp:0<d.own.length:=by rw[hT.len];exact hT.pos
 have hB:=OJ (e:=t) H.st hp hR
 have:=AN.made (us:=[]) (ft:=fun _=>[]) (fr:=fun _=>[]) H (Ab.alloc w (.cells z.cells t) _) (v:=.pointer (some ⟨w.heap.size,0,none⟩)) (s:=.box d.own d.zero [] 0) (f:=[⟨w.heap.size,0,d.own.length,0,d.own.length⟩])
  (by
    simp only[execOp,hop]
    refine B5 ?_
    simp[Instr.alloc,hz1,newVar,newRow])
  (by simp[hop,AH])
  (fun cv' env' d' hc=>⟨by rw[hc];simpa using hB,by simp⟩) (by simp[AA.root]) rfl (by simpa using hfr) (by simp) (by simp) (by simp) (by simp)
 simpa using this
theorem Nw (H:DT C o w a σ Lt cv fp) {X:Operand} {t:TypeId} (hop:o.op = .box t X)
  {out:A9} (h:Qg C.E σ.g o t (AB σ.env X)=some out) (hfr:Av o σ out.ups) :
  out.g=none∧AN C o a w ⟨Ae out.ups σ.env,σ.g⟩:=by
 have hX:AT X:=H.opn X (by simp[hop,Op.operands])
 have hna:AH o.op=false:=by simp[hop,AH]
 unfold Qg at h
 split at h
 ·simp at h
 rename_i v hv
 split at h
 ·simp at h
 rename_i d hd
 have hT:=H.ty t d hd
 split at h
 ·rename_i hc
  obtain ⟨vs,f,h1,h2,-⟩:=Ag H.st hX hv
  have hcells:=h1.cells h2 hc.2
  have hp:0<v.p.length:=by rw[← h2.length_eq.1,hc.1];exact hT.pos
  have hex:(execOp a.eval o).run C.P w = .ok (.value (.pointer (some ⟨w.heap.size,0,none⟩))) (w.alloc (.cells vs.toArray t)):=by
   simp only[execOp,hop]
   refine B5 ?_
   have:(a.eval X).cells=vs.toArray:=by rw[← hcells]
   simp[Instr.box,newVar,newRow,this]
  split at h
  ·rename_i hn
   simp only[zS] at h
   subst h
   have:=h2.noOwn hn
   subst this
   have hB:=OJ (e:=t) H.st hp h2
   have:=AN.made (us:=[]) (ft:=fun _=>[]) (fr:=fun _=>[]) H (Ab.alloc w (.cells vs.toArray t) _) (v:=.pointer (some ⟨w.heap.size,0,none⟩)) (s:=.box v.p v.cs [] 0) (f:=[⟨w.heap.size,0,v.p.length,0,v.p.length⟩])
    hex hna (fun cv' env' d' hc=>⟨by rw[hc];exact hB,by simp⟩) (by simp[AA.root]) rfl (by simpa using hfr) (by simp) (by simp) (by simp) (by simp)
   exact ⟨rfl,by simpa using this⟩
  ·rename_i hno
   cases X with
   | const c=>simp[AB] at h
   | global=>simp[AB] at h
   | func=>simp[AB] at h
   | tmp tx =>
     rw[AJ] at h hv
     rw[Ay H.st hX] at h1
     have hs:=H.st.slots tx
     cases hg:AE σ.env tx with
     | val ag p cs d0 pin =>
       simp only[hg,zS] at h hv
       subst h
       simp only[AV,zS] at hv
       subst hv
       rw[hg] at hs
       obtain ⟨vs',g1,g2,g3⟩:=hs
       obtain rfl:=h1.uniq g1
       have hB:=OJ (e:=t) H.st hp g2
       have:=AN.made (us:=[(tx,.gone)]) (ft:=fun _=>fp tx) (fr:=fun _=>[]) H (Ab.alloc w (.cells vs.toArray t) _) (v:=.pointer (some ⟨w.heap.size,0,none⟩)) (s:=.box p cs [] pin) (f:=⟨w.heap.size,0,p.length,0,p.length⟩::fp tx)
        hex hna (fun cv' env' d' hc'=>⟨by rw[hc'];exact hB,fun hp'=>⟨_,_,_,_,_,hc',GC _,by rw[← g2.length_eq.2,H1];exact (g3 hp').symm⟩⟩) (by simp[AA.root]) rfl hfr (by simp)
        (fun k s hm=>by
          simp only[mem_singleton,zP] at hm
          obtain ⟨rfl,rfl⟩:=hm
          refine ⟨fun _ _ _=>rfl,fun _ h=>h,by simp,by simpa using H.st.nodup k,rfl,fun _=>⟨AC.noRoot rfl,trivial⟩,?_⟩
          rw[hg]
          simp only at hno
          cases d0 <;>simp[A0,hno])
        (by
          simp only[map_cons,nodup_cons]
          exact ⟨fun hm=>by obtain ⟨x,hx',e⟩:=mem_map.1 hm;exact MP H.st hx' e,H.st.nodup tx⟩)
        (fun x hx'=>by
          rcases mem_cons.1 hx' with rfl | hx'
          ·exact .inl (Nat.le_refl _)
          ·exact .inr ⟨tx,by simp,hx'⟩)
       exact ⟨rfl,this⟩
     | view k pl=>simp[hg] at h
     | _=>simp[hg,AV] at hv
 ·simp at h
end
theorem QH {α:Type} {m j:Nat} {l:List α} (h:j<m * l.length):((List.replicate m l).flatten)[j]?=l[j % l.length]? :=by
 induction m generalizing j with
 | zero=>simp at h
 | succ m ih =>
   rw[replicate_succ,flatten_cons]
   rcases Nat.lt_or_ge j l.length with hl | hl
   ·rw[List.getElem?_append_left hl,Nat.mod_eq_of_lt hl]
   ·rw[List.getElem?_append_right hl,ih (by rw[Nat.succ_mul] at h;omega),Nat.mod_eq_sub_mod hl]
theorem NB {α:Type} (m:Nat) (l:List α):((List.replicate m l).flatten).length=m * l.length:=by simp
theorem Jw {z:Array Value} {n:Nat}:((Array.range (n * z.size)).map (fun i=>z[i % z.size]!)).toList=(List.replicate n z.toList).flatten:=by
 apply List.ext_getElem?
 intro j
 rw[Array.getElem?_toList,Array.getElem?_map]
 rcases Nat.lt_or_ge j (n * z.size) with h | h
 ·rw[QH (by simpa using h),Array.getElem?_range,if_pos h]
  have hz:0<z.size:=by
   rcases Nat.eq_zero_or_pos z.size with h0 | h0
   ·rw[h0] at h;simp at h
   ·exact h0
  have hm:j % z.size<z.size:=Nat.mod_lt _ hz
  simp[hm]
 ·rw[Array.getElem?_range,if_neg (by omega),List.getElem?_eq_none (by rw[NB];simpa using h)]
  rfl
theorem Kw (off:Nat):∀ (vs:List Value) (i:Nat) (cells:Array Value),off+i+vs.length≤cells.size →
  ((vs.zipIdx i).foldl (fun cs (c,j)=>cs.setIfInBounds (off+j) c) cells).toList=cells.toList.take (off+i)++(vs++cells.toList.drop (off+i+vs.length))
 | [],i,cells,_=>by simp
 | v::vs,i,cells,h=>by
   simp only[length_cons] at h
   simp only[List.zipIdx_cons,foldl_cons]
   rw[Kw off vs (i+1) _ (by simp;omega)]
   have hlt:off+i<cells.toList.length:=by simp;omega
   rw[Array.toList_setIfInBounds]
   have h1:(cells.toList.set (off+i) v).take (off+(i+1))=cells.toList.take (off+i)++[v]:=by
    rw[show off+(i+1)=(off+i)+1 by omega,List.take_add_one,List.getElem?_set_self hlt]
    rw[List.take_set_of_le (Nat.le_refl _)]
    rfl
   have h2:(cells.toList.set (off+i) v).drop (off+(i+1)+vs.length)=cells.toList.drop (off+i+(vs.length+1)):=by
    rw[List.drop_set_of_lt (by omega)]
    congr 1;omega
   rw[h1,h2]
   simp
section
variable {C:BU} {w w':World} {a a':Act} {σ:AS} {Lt Lt':Nat→Nat→Prop} {cv cv':Nat→Value} {fp fpU:Nat→Fp} {g g':Nat} {env':List (Nat × AA)} {o:Oper} {Fz:Nat→Prop}
theorem LJ {place:Nat→Option (Nat × Nat)} {i off size:Nat} {x:Value} {vx V:List Value} {rest:List (Nat × Value)} (hp:place i=some (off,size)) (hx:x.cells.toList=vx) (hs:vx.length=size) (hl:off+size≤V.length) :
  Instr.fill place V.toArray ((i,x)::rest)=Instr.fill place (V.take off++(vx++V.drop (off+size))).toArray rest:=by
 have hsz:x.cells.size=size:=by rw[← hs,← hx];simp
 simp only[Instr.fill,hp]
 rw[if_neg]
 ·congr 1
  have e:x.cells.zipIdx.foldl (fun cs (c,j)=>cs.setIfInBounds (off+j) c) V.toArray=(vx.zipIdx 0).foldl (fun cs (c,j)=>cs.setIfInBounds (off+j) c) V.toArray:=by
   rw[← hx,← Array.foldl_toList,Array.toList_zipIdx]
  rw[e]
  apply Array.ext'
  have:=Kw off vx 0 V.toArray (by simp[hs];exact hl)
  simpa [hs] using this
 ·simp only[hsz]
  simp
  omega
inductive Ig (C:BU) (w:World) (a:Act) (σ:AS) (Lt:Nat→Nat→Prop) (cv:Nat→Value) (fp:Nat→Fp):List (Nat × Operand)→List (Nat × V)→List (Nat × AA)→List (List Value × Fp)→Prop
 | nil:Ig C w a σ Lt cv fp [] [] [] []
 | cons {i x v u rest vs us ws vx f} (h1:AD v.agg (a.eval x) vx) (h2:R w C.Fz Lt σ.g v.p v.cs vx f) (hf:Al σ.g v.p=true)
    (h3:(u=[]∧f=[])∨∃ k s fr,u=[(k,s)]∧FA C w σ Lt cv fp f k s fr) (r:Ig C w a σ Lt cv fp rest vs us ws) :
    Ig C w a σ Lt cv fp ((i,x)::rest) ((i,v)::vs) (u++us) ((vx,f)::ws)
theorem DF (h:BY C w a σ Lt cv fp) (hL:∀ b j,G1 fp b j→Lt b j) {tys:Nat→Option Nat}:∀ {parts:List (Nat × Operand)} {vs us},(∀ x∈parts,AT x.2) →
  CI C.E σ.g tys (parts.map fun x=>(x.1,AB σ.env x.2))=some (vs,us)→∃ ws,Ig C w a σ Lt cv fp parts vs us ws
 | [],vs,us,_,ht=>by
   simp only[map_nil,CI,zS,zP] at ht
   obtain ⟨rfl,rfl⟩:=ht
   exact ⟨[],.nil⟩
 | (i,x)::rest,vs,us,hx,ht=>by
   simp only[map_cons,CI] at ht
   split at ht
   ·simp at ht
   split at ht
   ·simp at ht
   rename_i v u hv
   split at ht
   ·simp at ht
   rename_i vs' us' hr
   simp only[zS,zP] at ht
   obtain ⟨rfl,rfl⟩:=ht
   obtain ⟨ws,hw⟩:=DF h hL (fun y hy=>hx y (by simp[hy])) hr
   obtain ⟨vx,f,h1,h2,h3,h4⟩:=Fy h hL (hx (i,x) (by simp)) hv
   exact ⟨_,.cons h1 h2 h3 h4 hw⟩
open Classical in
theorem Ig.spread (h:BY C w a σ Lt cv fp) {parts vs us ws} (ht:Ig C w a σ Lt cv fp parts vs us ws) (hn:(us.map (·.1)).Nodup) :
  ∃ ft fr:Nat→Fp,(∀ k t,(k,t)∈us→FA C w σ Lt cv fp (ft k) k t (fr k))∧(∀ x∈ws.flatMap (·.2),∃ k∈us.map (·.1),x∈ft k)∧((ws.flatMap (·.2)).map Fe.b).Nodup:=by
 induction ht with
 | nil=>exact ⟨fun _=>[],fun _=>[],by simp,by simp,by simp⟩
 | @cons i x v u rest vs us ws vx f h1 h2 hf h3 r ih =>
   rw[map_append,nodup_append] at hn
   obtain ⟨hn1,hn2,hn3⟩:=hn
   obtain ⟨ft,fr,i1,i2,i3⟩:=ih hn2
   rcases h3 with ⟨rfl,rfl⟩ | ⟨k,s,f2,rfl,hl⟩
   ·exact ⟨ft,fr,by simpa using i1,by simpa using i2,by simpa using i3⟩
   ·have hk:k ∉ us.map (·.1):=fun hm=>hn3 k (by simp) k hm rfl
    refine ⟨fun k'=>if k'=k then f else ft k',fun k'=>if k'=k then f2 else fr k',fun k' t hm => ?_,fun x hx => ?_,?_⟩
    ·simp only[List.singleton_append,mem_cons,zP] at hm
     rcases hm with ⟨rfl,rfl⟩ | hm
     ·simpa using hl
     ·have:k'≠k:=fun e=>hk (e ▸ mem_map.2 ⟨_,hm,rfl⟩)
      simp only[if_neg this]
      exact i1 k' t hm
    ·simp only[flatMap_cons,mem_append] at hx
     rcases hx with hx | hx
     ·exact ⟨k,by simp,by simpa using hx⟩
     ·obtain ⟨k',hk',hx'⟩:=i2 x hx
      have:k'≠k:=fun e=>hk (e ▸ hk')
      exact ⟨k',by simp only[map_append,mem_append];exact .inr hk',by simpa [this] using hx'⟩
    ·simp only[flatMap_cons,map_append]
     rw[nodup_append]
     refine ⟨?_,i3,?_⟩
     ·have:=hl.nodup
      rw[map_append,nodup_append] at this
      exact this.1
     ·intro b hb b' hb' e
      obtain ⟨x,hx,rfl⟩:=mem_map.1 hb
      obtain ⟨y,hy,rfl⟩:=mem_map.1 hb'
      obtain ⟨k',hk',hy'⟩:=i2 y hy
      obtain ⟨⟨k',t⟩,hm,rfl⟩:=mem_map.1 hk'
      obtain ⟨hkk,-⟩:=h.same (hl.took x hx) ((i1 k' t hm).took y hy') e
      exact hk (hkk ▸ hk')
def Rs (f F:Fp):Prop:=(∀ x∈f,x∈F)∧((F.map Fe.b).Nodup→(f.map Fe.b).Nodup)
theorem Rs.of_perm {f f' F:Fp} (h:(f++f').Perm F):Rs f F :=
 ⟨fun x hx=>h.mem_iff.1 (by simp[hx]),fun hn=>by
   have:=(h.map Fe.b).nodup_iff.2 hn
   rw[map_append,nodup_append] at this
   exact this.1⟩
theorem Rs.trans {a b c:Fp} (h:Rs a b) (k:Rs b c):Rs a c:=⟨fun x hx=>k.1 x (h.1 x hx),fun hn=>h.2 (k.2 hn)⟩
theorem NW {parts vs us ws} (ht:Ig C w a σ Lt cv fp parts vs us ws) {place place':Nat→Option (Nat × Nat)} (hpl:∀ i p,place i=some p→place' i=some p∧0<p.2) :
  ∀ {P:List Pm} {cs:List T} {V:List Value} {f0:Fp} {p' cs'},R w C.Fz Lt σ.g P cs V f0→M0 place P cs vs=some (p',cs') →
   ∃ V' f',Instr.fill place' V.toArray (parts.map fun x=>(x.1,a.eval x.2))=some V'.toArray∧R w C.Fz Lt σ.g p' cs' V' f'∧(∃ r,(f'++r).Perm (f0++ws.flatMap (·.2))):=by
 induction ht with
 | nil =>
   intro P cs V f0 p' cs' hR h
   simp only[M0,zS,zP] at h
   obtain ⟨rfl,rfl⟩:=h
   exact ⟨V,f0,rfl,hR,[],by simp⟩
 | @cons i x v u rest vs us ws vx f h1 h2 hf h3 r ih =>
   intro P cs V f0 p' cs' hR h
   simp only[M0] at h
   split at h
   ·simp at h
   rename_i off size hp
   split at h
   ·rename_i hc
    simp only[zB,beq_iff_eq,Nat.ble_eq] at hc
    obtain ⟨⟨c1,c2⟩,c3⟩:=hc
    obtain ⟨hp',hpos⟩:=hpl i _ hp
    simp only at hpos
    have hl:=hR.length_eq
    have hgp:BO P off size=some ((P.drop off).take size):=by
     have:∀ n c,c+n≤P.length→BO P c n=some ((P.drop c).take n):=by
      intro n
      induction n with
      | zero=>intro c _;simp[BO]
      | succ n ihn =>
        intro c hcn
        have hlt:c<P.length:=by omega
        simp only[BO,List.getElem?_eq_getElem hlt,ihn (c+1) (by omega)]
        rw[drop_eq_getElem_cons hlt,take_succ_cons]
     exact this size off (by omega)
    have hgn:=GG (cs:=cs) (i:=off) (n:=size) c3
    obtain ⟨f1,fm,f2,rfl,hlen,-,hset⟩:=hR.resubP hgp hgn hpos
    have hnew:=hset w Lt (fun _ _=>False) _ _ _ _ (Ab.refl _ _) (fun _ _ h=>h) (by simp) (by simp) (fun y hy=>⟨by simp,hR.noLtAbove y (by
     simp only[mem_append] at hy ⊢;rcases hy with hy | hy
     ·exact .inl hy
     ·exact .inr (.inr hy))⟩) h2 c2
    obtain ⟨V',f',e1,e2,r0,e3⟩:=ih hnew h
    refine ⟨V',f',?_,e2,fm++r0,?_⟩
    ·simp only[map_cons]
     rw[LJ hp' (h1.cells h2 hf) (by rw[← c2];exact h2.length_eq.2) (by omega)]
     exact e1
    ·simp only[flatMap_cons]
     have p1:(f'++(fm++r0)).Perm ((f'++r0)++fm):=by
      rw[append_assoc];exact List.Perm.append_left f' perm_append_comm
     refine p1.trans ((e3.append_right fm).trans ?_)
     rw[perm_iff_count]
     intro z
     simp only[count_append]
     omega
   ·simp at h
def H7 (P:Program) (t:TypeId):Nat:=match P.info? t with
 | some i=>i.size
 | none=>0
theorem FN {P:Program}:∀ {l:List Field},(∀ f∈l,(P.info? f.type).isSome=true) →
  (l.mapM (m:=Sem) fun f=>do pure (f.offset,← sizeOf f.type)).run P w = .ok (l.map fun f=>(f.offset,H7 P f.type)) w
 | [],_=>rfl
 | f::l,h=>by
   obtain ⟨i,hi⟩:=Option.isSome_iff_exists.1 (h f (by simp))
   have:=FN (P:=P) (l:=l) (fun f hf=>h f (by simp[hf]))
   have h1:(sizeOf f.type).run P w = .ok (H7 P f.type) w:=by simp[sizeOf,typeInfo,hi,H7]
   simp only[mapM_cons,Sem.run_bind,h1,this,Result.andThen_ok,Sem.run_pure,map_cons]
theorem N2 {P:Program} {fields:Array Field} (h:∀ f∈fields.toList,(P.info? f.type).isSome=true) :
  (fields.mapM (m:=Sem) fun f=>do pure (f.offset,← sizeOf f.type)).run P w = .ok (fields.map fun f=>(f.offset,H7 P f.type)) w:=by
 rw[Array.mapM_eq_mapM_toList,Sem.run_map,FN h]
 simp only[Result.andThen_ok]
 congr 1
 apply Array.ext'
 simp
theorem L8 (H:DT C o w a σ Lt cv fp) {t:TypeId} {parts:Array (Nat × Operand)} (hop:o.op = .build t parts)
  {out:A9} (h:Lx C.E σ.g o t (parts.toList.map fun x=>(x.1,AB σ.env x.2))=some out) (hfr:Av o σ out.ups) :
  out.g=none∧AN C o a w ⟨Ae out.ups σ.env,σ.g⟩:=by
 have hX:∀ x∈parts.toList,AT x.2:=fun x hx=>H.opn x.2 (by simp only[hop,Op.operands];exact mem_map.2 ⟨x,hx,rfl⟩)
 have hna:AH o.op=false:=by simp[hop,AH]
 have H' :=H.lendAll
 unfold Lx at h
 split at h
 ·rename_i d hd
  have hT:=H.ty t d hd
  split at h
  ·rename_i fs hk
   split at h
   ·simp at h
   rename_i vs us htp
   split at h
   ·simp at h
   rename_i p cs hfill
   split at h
   ·rename_i hnd
    simp only[zS] at h
    subst h
    obtain ⟨ws,htk⟩:=DF H'.st (fun b j h => .inr h) hX htp
    obtain ⟨z,hz1,hz2⟩:=GR (w:=w) hT
    have hR0:=A2 (w:=w) (Fz:=C.Fz) (Lt:=fun b j=>Lt b j∨G1 fp b j) (g:=σ.g) hz2 hT.fit
    obtain ⟨u,hu,hkd,-⟩:=hT.und
    unfold FS at hkd
    rw[hk] at hkd
    obtain ⟨fields,rfl,hfs⟩:=hkd
    have hplace:=N2 (w:=w) (hT.flds fields hu)
    have hfill' :=NW htk (place:=fun i=>match fs[i]? with
     | none=>none
     | some (off,ty)=>match C.E.ty ty with
       | none=>none
       | some d'=>some (off,d'.sz)) (place' :=fun i=>(fields.map fun f=>(f.offset,H7 C.P f.type))[i]?) (fun i p hi=>by
         split at hi
         ·simp at hi
         rename_i off ty hfi
         split at hi
         ·simp at hi
         rename_i d' hd'
         simp only[zS] at hi
         subst hi
         obtain ⟨inf,zz,g1,g2,-⟩:=(H.ty ty d' hd').info
         rw[← hfs,List.getElem?_map,Array.getElem?_toList] at hfi
         cases hx:fields[i]? with
         | none=>simp[hx] at hfi
         | some fld =>
           simp[hx] at hfi
           obtain ⟨rfl,rfl⟩:=hfi
           refine ⟨?_,(H.ty _ d' hd').pos⟩
           simp[hx,H7,g1,g2]) hR0 hfill
    obtain ⟨V',f',e1,e2,r0,e3⟩:=hfill'
    obtain ⟨ft,fr,i1,i2,i3⟩:=htk.spread H'.st (Az hnd)
    simp only[nil_append] at e3
    have hsub:=Rs.of_perm e3
    have:=AN.made (us:=us) (ft:=ft) (fr:=fr) H' (Ab.refl w _) (v:=.agg V'.toArray) (s:=.val true p cs [] 0) (f:=f')
     (by
       simp only[execOp,hop]
       refine B5 ?_
       simp only[Instr.build,Sem.run_bind,hz1,Result.andThen_ok,run_underlying hu,hplace]
       have e4:(parts.map fun x=>(x.1,a.eval x.2)).toList=parts.toList.map fun x=>(x.1,a.eval x.2):=by simp
       have e5:z.cells=z.cells.toList.toArray:=by simp
       rw[e4,e5,e1]
       rfl)
     hna (fun cv' env' d' hc'=>⟨V',by rw[hc'];simp[AD],e2,by simp⟩) (by simp[AA.root]) rfl hfr (Az hnd) i1 (hsub.2 i3) (fun x hx => .inr (i2 x (hsub.1 x hx)))
    exact ⟨rfl,this⟩
   ·simp at h
  ·simp at h
 ·simp at h
end
section
variable {C:BU} {w w':World} {a a':Act} {σ:AS} {Lt Lt':Nat→Nat→Prop} {cv cv':Nat→Value} {fp fpU:Nat→Fp} {g g':Nat} {env':List (Nat × AA)} {o:Oper} {Fz:Nat→Prop}
theorem O3 (n:Nat) (cs:List T):reps (n+1) cs=cs++reps n cs:=by simp[reps,replicate_succ]
theorem R.reps {g:Nat} {el:List Pm} {cs:List T} {vs:List Value} (h:R w Fz Lt g el cs vs []):∀ n,R w Fz Lt g (rep n el) (reps n cs) (List.replicate n vs).flatten []
 | 0=>by simpa [rep,Desk.reps] using R.nil
 | n+1=>by
   rw[Ba,O3,replicate_succ,flatten_cons]
   have:=h.append (R.reps h n)
   simpa using this
theorem Ol (h:BY C w a σ Lt cv fp) {g n:Nat} {el:List Pm} {cs:List T} {vs:List Value} {f:Fp} {e:TypeId} (hp:0<el.length) (hR:R w C.Fz Lt g (rep n el) cs vs f) :
  R (w.alloc (.cells vs.toArray e)) C.Fz Lt g [.sl .own el] [.lst n cs] [.slice (some ⟨w.heap.size,0,none⟩) n n] (⟨w.heap.size,0,n * el.length,n * el.length,n * el.length⟩::f):=by
 have hx:Ab w (w.alloc (.cells vs.toArray e)) (fun _ _=>False):=Ab.alloc w _ _
 have hl:vs.length=n * el.length:=by rw[hR.length_eq.2,A6]
 have:=R.slO (b:=w.heap.size) (off:=0) (cap:=n) hp (GC (.cells vs.toArray e)) (G3 h) (fun j _=>Gv h j) (Nat.le_refl n) (by rw[← hl];exact H1 vs) (by simp[hl]) (by simp)
  (hR.mono hx (fun _ h=>h) (fun _ _ h=>h) (by simp) (by simp) (fun x hx'=>⟨by simp,(hR.lt x hx').2.2.2,hR.noLtAbove x hx'⟩)) (R.nil (w:=w.alloc (.cells vs.toArray e)) (Fz:=C.Fz) (Lt:=Lt) (g:=g))
 simpa using this
theorem KI {x y:Operand} (h:C9 x y=true):x=y:=by
 unfold C9 at h
 split at h
 ·simp at h;rw[h]
 ·simp at h
theorem Ki {P:Program} {E:AX} {t e:TypeId} {d:TD} (hu:P.underlying t=some (.slice e)) (hT:GN P E e d) {n:Nat} (h1:n≤Q3) (h2:d.bytes≤1024) :
  ∃ z:Value,Ck z.cells.toList=some d.zero∧(Instr.makeSlice t (.int .i64 n) (.int .i64 n)).run P w = .ok (.slice (some ⟨w.heap.size,0,none⟩) n n) (w.alloc (.cells (List.replicate n z.cells.toList).flatten.toArray e)):=by
 obtain ⟨i,z,g1,g2,g3,g4,g5,g6⟩:=hT.info
 have hzs:z.cells.size=d.sz:=by
  have:=(A2 (w:=w) (Fz:=fun _=>False) (Lt:=fun _ _=>False) (g:=0) g5 hT.fit).length_eq
  have:=hT.len
  simp at *;omega
 refine ⟨z,g5,?_⟩
 have hb:i.bytes * n≤1024 * 2147483648:=by rw[g3];exact Nat.mul_le_mul h2 h1
 have hw:IntKind.i64.wrap (n:Int)=n:=by
  rw[IntKind.wrap_i64];unfold Q3 at h1;omega
 have hc:¬ ((i.bytes:Int) * (n:Int)>2 ^ 48):=by
  have h0:(2:Int) ^ 48=281474976710656:=by decide
  rw[h0,← Int.natCast_mul]
  generalize i.bytes * n=q at hb
  omega
 have hzc:((Array.range (n * d.sz)).map (fun j=>z.cells[j % z.cells.size]!))=(List.replicate n z.cells.toList).flatten.toArray:=by
  apply Array.ext'
  rw[← hzs,Jw]
 have hnn:¬ ((n:Int)<0):=by omega
 simp only[Instr.makeSlice,Sem.run_bind,run_underlying hu,Result.andThen_ok,asInt,asIntOf,Sem.run_pure,typeInfo,run_program,g1,hw,decide_false,hnn,Bool.false_or,hc,Bool.or_self,Bool.false_eq_true,if_false,gt_iff_lt,Int.lt_irrefl,run_askRoom,zT,sizeOf,g2]
 by_cases h0:n * d.sz=0
 ·rw[if_pos h0]
  have hn0:n=0:=by
   rcases Nat.mul_eq_zero.1 h0 with h | h
   ·exact h
   ·have:=hT.pos;omega
  subst hn0
  simp[newRow,Array.range_zero']
 ·rw[if_neg h0]
  simp only[Sem.run_bind,zeroValue,typeInfo,run_program,Result.andThen_ok,g1,Sem.run_pure,g4,hzc,newRow,run_newObj]
  rfl
theorem II (H:DT C o w a σ Lt cv fp) {X Y:Operand} {t:TypeId} (hop:o.op = .makeSlice t X Y) (hXY:C9 X Y=true)
  {out:A9} (h:C8 C.E o t (AB σ.env X) 0=some out) (hfr:Av o σ out.ups) :
  out.g=none∧AN C o a w ⟨Ae out.ups σ.env,σ.g⟩:=by
 have hX:AT X:=H.opn X (by simp[hop,Op.operands])
 obtain rfl:=KI hXY
 unfold C8 at h
 split at h
 ·rename_i d hd
  split at h
  ·rename_i e hk
   split at h
   ·simp at h
   rename_i de hde
   split at h
   ·rename_i n hn
    split at h
    ·rename_i hc
     obtain ⟨c1,c2,c3⟩:=hc
     simp only[zS] at h
     subst h
     have hl:=Ai H.st hX hn
     simp only[AG] at hl
     have hT:=H.ty e de hde
     obtain ⟨u,hu,hkd,-⟩:=(H.ty t d hd).und
     unfold FS at hkd
     rw[hk] at hkd
     have hu':C.P.underlying t=some (.slice e):=by rw[hu,hkd.1]
     obtain ⟨z,hz,hrun⟩:=Ki (w:=w) hu' hT (n:=n.toNat) (by unfold Q3 at *;omega) c3
     have hR:=(A2 (w:=w) (Fz:=C.Fz) (Lt:=Lt) (g:=σ.g) hz hT.fit).reps n.toNat
     have hB:=Ol (e:=e) H.st (by rw[hT.len];exact hT.pos) hR
     have:=AN.made (us:=[]) (ft:=fun _=>[]) (fr:=fun _=>[]) H (Ab.alloc w (.cells (List.replicate n.toNat z.cells.toList).flatten.toArray e) _) (v:=.slice (some ⟨w.heap.size,0,none⟩) n.toNat n.toNat) (s:=.val false [.sl .own de.own] [.lst n.toNat (reps n.toNat de.zero)] [] 0) (f:=[⟨w.heap.size,0,n.toNat * de.own.length,n.toNat * de.own.length,n.toNat * de.own.length⟩])
      (by
        simp only[execOp,hop]
        refine B5 ?_
        rw[hl]
        have:n=(n.toNat:Int):=by omega
        rw[this]
        exact hrun)
      (by simp[hop,AH])
      (fun cv' env' d' hc=>⟨[_],by simp[AD,hc],hB,by simp⟩) (by simp[AA.root]) rfl (by simpa using hfr) (by simp) (by simp) (by simp) (by simp)
     exact ⟨rfl,by simpa using this⟩
    ·simp at h
   ·simp at h
  ·simp at h
 ·simp at h
theorem NY {parts vs us ws} (ht:Ig C w a σ Lt cv fp parts vs us ws) {el:List Pm} {len:Nat} (hel:0<el.length) :
  ∀ {cs:List T} {V:List Value} {f0:Fp} {cs'},R w C.Fz Lt σ.g (rep len el) cs V f0→LP el (fun i=>some (i * el.length,el.length)) cs vs=some cs' →
   ∃ V' f',Instr.fill (fun i=>some (i * el.length,el.length)) V.toArray (parts.map fun x=>(x.1,a.eval x.2))=some V'.toArray∧R w C.Fz Lt σ.g (rep len el) cs' V' f'∧(∃ r,(f'++r).Perm (f0++ws.flatMap (·.2))):=by
 induction ht with
 | nil =>
   intro cs V f0 cs' hR h
   simp only[LP,zS] at h
   subst h
   exact ⟨V,f0,rfl,hR,[],by simp⟩
 | @cons i x v u rest vs us ws vx f h1 h2 hf h3 r ih =>
   intro cs V f0 cs' hR h
   simp only[LP] at h
   split at h
   ·simp at h
   rename_i q hq
   split at h
   ·rename_i hc
    simp only[zB,decide_eq_true_eq,Nat.ble_eq] at hc
    obtain ⟨⟨c1,c2⟩,c3⟩:=hc
    have c2:=pbeqs_eq c2
    subst c2
    have hq':BO el 0 el.length=some v.p:=by
     split at hq
     ·exact hq
     ·rwa [Nat.mul_mod_left] at hq
    have hl:=hR.length_eq
    have hix:ix el.length i 0=i * el.length:=Gk _ _
    have hgn:=GG (cs:=cs) (i:=ix el.length i 0) (n:=el.length) (by rw[hix];exact c3)
    obtain ⟨f1,fm,f2,rfl,hlen,-,hset⟩:=hR.resub hq' hgn hel
    have hnew:=hset w (fun _ _=>False) _ _ _ (Ab.refl _ _) (by simp) (by simp) (by simp) h2
    rw[hix] at hnew
    obtain ⟨V',f',e1,e2,r0,e3⟩:=ih hnew h
    refine ⟨V',f',?_,e2,fm++r0,?_⟩
    ·simp only[map_cons]
     rw[LJ (place:=fun i=>some (i * el.length,el.length)) (off:=i * el.length) (size:=el.length) rfl (h1.cells h2 hf) (by rw[h2.length_eq.2,← h2.length_eq.1,c1]) (by omega)]
     exact e1
    ·simp only[flatMap_cons]
     have p1:(f'++(fm++r0)).Perm ((f'++r0)++fm):=by
      rw[append_assoc];exact List.Perm.append_left f' perm_append_comm
     refine p1.trans ((e3.append_right fm).trans ?_)
     rw[perm_iff_count]
     intro z
     simp only[count_append]
     omega
   ·simp at h
theorem Mi (own:List Pm) (vs:List (Nat × V)):DI own vs=own∨DI own vs=shares own:=by
 unfold DI
 split
 ·exact .inr rfl
 ·exact .inl rfl
theorem HI (own:List Pm) (vs:List (Nat × V)):(DI own vs).length=own.length:=by
 rcases Mi own vs with e | e <;>rw[e]
 rw[AK]
theorem He (H:DT C o w a σ Lt cv fp) {t:TypeId} {len:Nat} {parts:Array (Nat × Operand)} (hop:o.op = .buildSlice t len parts)
  {out:A9} (h:Cd C.E σ.g o t len (parts.toList.map fun x=>(x.1,AB σ.env x.2))=some out) (hfr:Av o σ out.ups) :
  out.g=none∧AN C o a w ⟨Ae out.ups σ.env,σ.g⟩:=by
 have hX:∀ x∈parts.toList,AT x.2:=fun x hx=>H.opn x.2 (by simp only[hop,Op.operands];exact mem_map.2 ⟨x,hx,rfl⟩)
 have hna:AH o.op=false:=by simp[hop,AH]
 have H' :=H.lendAll
 unfold Cd at h
 split at h
 ·rename_i d hd
  split at h
  ·rename_i e hk
   split at h
   ·simp at h
   rename_i de hde
   split at h
   ·rename_i hsz
    simp only[Nat.ble_eq] at hsz
    split at h
    ·simp at h
    rename_i vs us htp
    split at h
    ·simp at h
    rename_i cs hfill
    split at h
    ·rename_i hnd
     simp only[zS] at h
     subst h
     have hT:=H.ty e de hde
     obtain ⟨u,hu,hkd,-⟩:=(H.ty t d hd).und
     unfold FS at hkd
     rw[hk] at hkd
     have hu':C.P.underlying t=some (.slice e):=by rw[hu,hkd.1]
     obtain ⟨ws,htk⟩:=DF H'.st (fun b j h => .inr h) hX htp
     obtain ⟨i,z,g1,g2,g3,g4,g5,g6⟩:=hT.info
     have hR0:=(A2 (w:=w) (Fz:=C.Fz) (Lt:=fun b j=>Lt b j∨G1 fp b j) (g:=σ.g) g5 hT.fit).reps len
     have hpl:0<(DI de.own vs).length:=by rw[HI,hT.len];exact hT.pos
     have hel:(DI de.own vs).length=de.sz:=by rw[HI,hT.len]
     have hR0:R w C.Fz (fun b j=>Lt b j∨G1 fp b j) σ.g (rep len (DI de.own vs)) (reps len de.zero) (List.replicate len z.cells.toList).flatten []:=by
      rcases Mi de.own vs with e | e <;>rw[e]
      ·exact hR0
      ·rw[← E7];exact hR0.share (fun _ h=>h) (by simp)
     rw[← hel] at hfill
     obtain ⟨V',f',e1,e2,r0,e3⟩:=NY htk hpl hR0 hfill
     obtain ⟨ft,fr,i1,i2,i3⟩:=htk.spread H'.st (Az hnd)
     simp only[nil_append] at e3
     have hsub:=Rs.of_perm e3
     have hB:=Ol (e:=e) H'.st hpl e2
     have hzs:z.cells.size=de.sz:=by
      have:=(A2 (w:=w) (Fz:=fun _=>False) (Lt:=fun _ _=>False) (g:=0) g5 hT.fit).length_eq
      have:=hT.len
      simp at *;omega
     have:=AN.made (us:=us) (ft:=ft) (fr:=fr) H' (Ab.alloc w (.cells V'.toArray e) _) (v:=.slice (some ⟨w.heap.size,0,none⟩) len len) (s:=.val false [.sl .own (DI de.own vs)] [.lst len cs] [] 0) (f:=⟨w.heap.size,0,len * (DI de.own vs).length,len * (DI de.own vs).length,len * (DI de.own vs).length⟩::f')
      (by
        simp only[execOp,hop]
        refine B5 ?_
        have e4:(parts.map fun x=>(x.1,a.eval x.2)).toList=parts.toList.map fun x=>(x.1,a.eval x.2):=by simp
        have h24:¬ (len * de.sz>2 ^ 24):=by have:(2:Nat)^24=16777216:=by decide
                                            omega
        have hcells:∀ z':Array Value,(len * de.sz≠0→z'=z.cells)→((Array.range (len * de.sz)).map (fun j=>z'[j % z'.size]!))=(List.replicate len z.cells.toList).flatten.toArray:=by
         intro z' hz'
         by_cases h0:len * de.sz=0
         ·have hn0:len=0:=by
           rcases Nat.mul_eq_zero.1 h0 with h | h
           ·exact h
           ·have:=hT.pos;omega
          subst hn0
          simp
         ·rw[hz' h0]
          apply Array.ext'
          rw[← hzs,Jw]
        rw[← hel] at hcells h24
        simp only[Instr.buildSlice,Sem.run_bind,run_underlying hu',Result.andThen_ok,sizeOf,typeInfo,run_program,g1,Sem.run_pure,g2,← hel,h24,if_false,e4]
        by_cases h0:len * (DI de.own vs).length=0
        ·rw[if_pos h0]
         have:=hcells #[] (fun h=>absurd h0 h)
         simp only[pure_bind,this,e1,newRow,Sem.run_bind,run_newObj,Result.andThen_ok,Sem.run_pure]
         rfl
        ·rw[if_neg h0]
         have:=hcells z.cells (fun _=>rfl)
         simp only[zeroValue,typeInfo,Sem.run_bind,run_program,Result.andThen_ok,g1,g4,Sem.run_pure,this,e1,newRow,run_newObj]
         rfl)
      hna (fun cv' env' d' hc'=>⟨[_],by simp[AD,hc'],hB,by simp⟩) (by simp[AA.root]) rfl hfr (Az hnd) i1
      (by
        simp only[map_cons,nodup_cons]
        refine ⟨fun hm => ?_,hsub.2 i3⟩
        obtain ⟨x,hx',e⟩:=mem_map.1 hm
        obtain ⟨k,hk,hxk⟩:=i2 x (hsub.1 x hx')
        obtain ⟨⟨k,t⟩,hm,rfl⟩:=mem_map.1 hk
        exact MP H.st ((i1 k t hm).took x hxk) e)
      (fun x hx=>by
        rcases mem_cons.1 hx with rfl | hx
        ·exact .inl (Nat.le_refl _)
        ·exact .inr (i2 x (hsub.1 x hx)))
     exact ⟨rfl,this⟩
    ·simp at h
   ·simp at h
  ·simp at h
 ·simp at h
theorem FK (h:BY C w a σ Lt cv fp):∀ {xs:List Operand} {ks:List (Nat × AO)},(∀ x∈xs,AT x)→EQ (xs.map (AB σ.env))=some ks →
  CJ w cv σ.env ks (xs.map a.eval)∧∀ k∈ks.map (·.1),k<1000000∧AI (AE σ.env k)
 | [],ks,_,hk=>by
   simp only[map_nil,EQ,zS] at hk
   subst hk
   exact ⟨trivial,by simp⟩
 | x::xs,ks,hx,hk=>by
   simp only[map_cons,EQ] at hk
   split at hk
   ·simp at hk
   rename_i k pl root hp
   split at hk
   ·simp at hk
   rename_i ks' hr
   simp only[zS] at hk
   subst hk
   obtain ⟨h1,h2⟩:=FK h (fun y hy=>hx y (by simp[hy])) hr
   obtain ⟨rfl,hk',p,cs,dd,hroot,hseen,vs0,base0,el,rv,b,i,hrv,hcr,hev,hTok⟩:=FC h (hx x (by simp)) hp
   refine ⟨⟨?_,h1⟩,?_⟩
   ·intro P CS D hr hst
    rw[hroot] at hr
    simp only[zS,zP] at hr
    obtain ⟨rfl,rfl,rfl⟩:=hr
    exact ⟨vs0,base0,el,rv,b,i,hrv,hcr,hev,hTok⟩
   ·intro k' hk2
    simp only[map_cons,mem_cons] at hk2
    rcases hk2 with rfl | hk2
    ·exact ⟨hk',DP hroot hseen⟩
    ·exact h2 k' hk2
theorem Ix (H:DT C o w a σ Lt cv fp) {fn:Fn} {first caps:Array Operand} (hop:o.op = .makeFunc fn first caps)
  {out:A9} (h:HB o fn first.size ((first++caps).toList.map (AB σ.env))=some out) (hfr:Av o σ out.ups) :
  out.g=none∧AN C o a w ⟨Ae out.ups σ.env,σ.g⟩:=by
 have hX:∀ x∈(first++caps).toList,AT x:=fun x hx=>H.opn x (by simpa only[hop,Op.operands] using hx)
 have hna:AH o.op=false:=by simp[hop,AH]
 unfold HB at h
 split at h
 ·rename_i f
  split at h
  ·rename_i h0
   split at h
   ·simp at h
   rename_i ks hk
   simp only[zS] at h
   subst h
   have hf:first = #[]:=by apply Array.ext';simpa using h0
   subst hf
   obtain ⟨h1,h2⟩:=FK H.st hX hk
   refine ⟨rfl,AN.one H.df H.st (Ab.refl _ _) (v:=.func (.func f) #[] (caps.map a.eval)) ?_ H.dst hfr hna (fun d _ hd=>⟨rfl,caps.toList.map a.eval,by simp only[if_true];congr 1;apply Array.ext';simp,?_⟩) h2 (.inl trivial)⟩
   ·simp only[execOp,hop]
    refine B5 ?_
    simp[Instr.makeFunc]
   ·have:=IZ (d:=d) (v:=.func (.func f) #[] (caps.map a.eval)) (s:=.clo f ks) hd h1
    simpa using this
  ·simp at h
 ·simp at h
end
section
variable {C:BU} {w w':World} {a a':Act} {σ:AS} {Lt Lt':Nat→Nat→Prop} {cv cv':Nat→Value} {fp fpU:Nat→Fp} {g g':Nat} {env':List (Nat × AA)} {o:Oper} {Fz:Nat→Prop}
theorem AN.set {v:Value} (us:List (Nat × AA)) (val:Nat→Value) (fn:Nat→Fp) (H:DT C o w a σ Lt cv fp) (hx:Ab w w' (fun _ _=>False))
  (hr:(execOp a.eval o).run C.P w = .ok (.value v) w') (hnd:(us.map (·.1)).Nodup)
  (hval:∀ k,k<1000000→k∈us.map (·.1)→val k=if o.dst=some k then v else cv k)
  (hdst:∀ d,o.dst=some d→d∈us.map (·.1))
  (htup:∀ k n,k ∉ us.map (·.1)→AE σ.env k = .tup n→n≤16→∀ i,i<n→AF k i∈us.map (·.1)→val (AF k i)=cv (AF k i))
  (hus:∀ k s,(k,s)∈us→AR C w' Lt σ.g (fun k=>if k∈us.map (·.1) then val k else cv k) (Ae us σ.env) k (fn k) s∧((fn k).map Fe.b).Nodup ∧
     (∀ k'∈s.looks,k'<1000000∧AI (AE (Ae us σ.env) k')) ∧
     (k<1000000→AI (AE σ.env k)→AC w w' (cv k) (AE σ.env k) (val k) s∧AI s) ∧
     (∀ x∈fn k,w.heap.size≤x.b∨∃ k0∈us.map (·.1),x∈fp k0))
  (hdis:∀ j∈us.map (·.1),∀ k∈us.map (·.1),j≠k→∀ x∈fn j,∀ y∈fn k,x.b≠y.b) :
  AN C o a w ⟨Ae us σ.env,σ.g⟩:=by
 have hst:=H.st
 refine AN.value hr ⟨by rw[Act.put_defers'];exact H.df,?_⟩
 obtain ⟨fp',h'⟩:=hst.many (W:=fun _ _=>False) (w' :=w') (g' :=σ.g) (Lt' :=Lt) (a' :=a.put o.dst v) us val fn hx (by simp) (.inl ⟨rfl,fun _ _ h=>h,by simp⟩) hnd
  (fun k hk=>by
    have hcv:=hst.tmps k hk
    cases hd:o.dst with
    | none =>
      simp only[Act.put]
      rw[← hcv]
      split
      ·rename_i hm
       rw[hval k hk hm,hd];simp
      ·rfl
    | some d =>
      rw[EX a d k v (H.dst d hd),← hcv]
      split
      ·rename_i hm
       rw[hval k hk hm,hd]
       simp only[zS,eq_comm]
      ·rename_i hm
       rw[if_neg]
       intro e
       exact hm (e ▸ hdst d hd))
  (by rw[EW];exact hst.size)
  (fun k hk=>⟨fun n hn h16 i hi hm=>htup k n hk hn h16 i hi hm,fun x hx'=>⟨by simp,(hst.slots k).noLt hx'⟩⟩)
  (fun k s hm=>by
    obtain ⟨h1,h2,h3,h4,h5⟩:=hus k s hm
    exact ⟨h1,h2,h3,h4,fun x hx'=>(h5 x hx').imp (fun h=>h) (fun ⟨k0,hk0,hx0⟩=>⟨k0,hk0,x,hx0,rfl,Nat.le_refl _,Nat.le_refl _⟩)⟩)
  hdis (fun b j hb=>by have:=hst.lt b j hb;have:=hx.size;omega)
 exact ⟨Lt,_,fp',h'⟩
theorem KF (H:DT C o w a σ Lt cv fp) {d:Nat} (hd:o.dst=some d) (k i:Nat):AF k i≠d:=by
 have h1:=BN k i
 have h2:d<a.tmps.size:=H.dst d hd
 have h3:=H.st.size
 omega
theorem KS (H:DT C o w a σ Lt cv fp) {t i:Nat} (hop:o.op = .extract (.tmp t) i)
  {out:A9} (h:F7 o (.part t i (AE σ.env t) (AE σ.env (AF t i)))=some out) (hfr:Av o σ out.ups) :
  out.g=none∧AN C o a w ⟨Ae out.ups σ.env,σ.g⟩:=by
 have ht:t<1000000:=H.opn (.tmp t) (by simp[hop,Op.operands])
 have hna:AH o.op=false:=by simp[hop,AH]
 have hst:=H.st
 unfold F7 at h
 split at h
 ·rename_i n c heq
  obtain ⟨rfl,rfl,htup,rfl⟩:_∧_∧_∧_:=by simpa using heq
  split at h
  ·rename_i hi
   have hs:=hst.slots t
   rw[htup] at hs
   obtain ⟨-,vs,h1,h2,-,h3⟩:=hs
   have hex:(execOp a.eval o).run C.P w = .ok (.value (cv (AF t i))) w:=by
    simp only[execOp,hop]
    refine B5 ?_
    rw[Ay hst ht,h1]
    simp[Instr.extract,h3 i hi]
   have hsc:=hst.slots (AF t i)
   split at h
   ·rename_i ag p cs dd pin hcs
    rw[hcs] at hsc
    obtain ⟨vs',g1,g2,-⟩:=hsc
    split at h
    ·rename_i hn
     simp only[zS] at h
     subst h
     have:=g2.noOwn hn
     rw[this] at g2
     exact ⟨rfl,AN.val H.df hst (Ab.refl _ _) hex H.dst hfr hna g1 g2⟩
    ·rename_i hn
     simp only[zS] at h
     subst h
     have:=AN.made (us:=[(AF t i,.gone)]) (ft:=fun _=>fp (AF t i)) (fr:=fun _=>[]) H (Ab.refl w _) (v:=cv (AF t i)) (s:=.val ag p cs [] 0) (f:=fp (AF t i))
      hex hna (fun cv' env' d' hc'=>⟨vs',by rw[hc'];exact g1,g2,by simp⟩) (by simp[AA.root]) rfl hfr (by simp)
      (fun k s hm=>by
        simp only[mem_singleton,zP] at hm
        obtain ⟨rfl,rfl⟩:=hm
        refine ⟨fun _ _ _=>rfl,fun _ h=>h,by simp,by simpa using hst.nodup (AF t i),rfl,fun _=>⟨AC.noRoot rfl,trivial⟩,?_⟩
        rw[hcs]
        cases dd <;>simp[A0,hn])
      (hst.nodup _) (fun x hx' => .inr ⟨AF t i,by simp,hx'⟩)
     exact ⟨rfl,this⟩
   ·rename_i p cs dd pin hcs
    rw[hcs] at hsc
    obtain ⟨g1,-⟩:=hsc
    simp only[zS] at h
    subst h
    have:=AN.made (us:=[(AF t i,.gone)]) (ft:=fun _=>fp (AF t i)) (fr:=fun _=>[]) H (Ab.refl w _) (v:=cv (AF t i)) (s:=.box p cs [] 0) (f:=fp (AF t i))
     hex hna (fun cv' env' d' hc'=>⟨by rw[hc'];exact g1,by simp⟩) (by simp[AA.root]) rfl hfr (by simp)
     (fun k s hm=>by
       simp only[mem_singleton,zP] at hm
       obtain ⟨rfl,rfl⟩:=hm
       refine ⟨fun _ _ _=>rfl,fun _ h=>h,by simp,by simpa using hst.nodup (AF t i),rfl,fun _=>⟨AC.noRoot rfl,trivial⟩,?_⟩
       rw[hcs];rfl)
     (hst.nodup _) (fun x hx' => .inr ⟨AF t i,by simp,hx'⟩)
    exact ⟨rfl,this⟩
   ·simp at h
  ·simp at h
 ·simp at h
theorem I6 {k d t:Nat} {s s1 s2:AA} (h:(k,s)∈[(d,s1),(t,s2)]):(k=d∧s=s1)∨(k=t∧s=s2):=by
 simpa using h
theorem Fa (H:DT C o w a σ Lt cv fp) {t d:Nat} {s s':AA} {v:Value} (hd:o.dst=some d) (ht:t<1000000) (htd:t≠d)
  (hr:(execOp a.eval o).run C.P w = .ok (.value v) w)
  (hs:∀ cv' env',cv' d=v→AR C w Lt σ.g cv' env' d (fp t) s) (hdirt:∀ p cs dd,s.root=some (p,cs,dd)→dd=BD) (hsr:s.root≠none) (hlk:s.looks=[])
  (hs':(∃ pl,s' = .view d pl)∨∃ pl,s' = .ptr d pl) :
  AN C o a w ⟨Ae [(d,s),(t,s')] σ.env,σ.g⟩:=by
 have hst:=H.st
 have hdt:(d:Nat)<1000000:=Nat.lt_of_lt_of_le (H.dst d hd) hst.size
 have hso:AI s:=by
  cases s with
  | val a p cs dd pin =>
    have:=hdirt p cs dd rfl
    subst this
    trivial
  | box=>trivial
  | _=>simp[AA.root] at hsr
 have hnd:(([(d,s),(t,s')]:List (Nat × AA)).map (·.1)).Nodup:=by simp[htd.symm]
 have hgd:AE (Ae [(d,s),(t,s')] σ.env) d=s:=Hd hnd (by simp)
 have hlk':s'.looks=[d]:=by rcases hs' with ⟨pl,rfl⟩ | ⟨pl,rfl⟩ <;>rfl
 have hroot':s'.root=none:=by rcases hs' with ⟨pl,rfl⟩ | ⟨pl,rfl⟩ <;>rfl
 have hso':AI s' :=by rcases hs' with ⟨pl,rfl⟩ | ⟨pl,rfl⟩ <;>trivial
 refine AN.set [(d,s),(t,s')] (fun k=>if k=d then v else cv k) (fun k=>if k=d then fp t else []) H (Ab.refl _ _) hr hnd (fun k hk hm => ?_) (fun d' hd' => ?_) (fun k n hk hn h16 i hi hm => ?_) (fun k s1 hm => ?_) ?_
 ·rw[hd];simp only[zS]
  by_cases h:k=d
  ·rw[if_pos h,if_pos h.symm]
  ·rw[if_neg h,if_neg (fun e=>h e.symm)]
 ·rw[hd] at hd';simp only[zS] at hd';subst hd';simp
 ·rw[if_neg (KF H hd k i)]
 ·rcases I6 hm with ⟨rfl,rfl⟩ | ⟨rfl,rfl⟩
  ·simp only[if_true]
   exact ⟨hs _ _ (by simp),hst.nodup t,by rw[hlk];simp,fun _ _=>⟨AC.all hdirt,hso⟩,fun x hx' => .inr ⟨t,by simp,hx'⟩⟩
  ·simp only[if_neg htd]
   refine ⟨?_,by simp,by rw[hlk'];simp only[mem_singleton,forall_eq];exact ⟨hdt,by rw[hgd];exact hso⟩,fun _ _=>⟨AC.noRoot hroot',hso'⟩,by simp⟩
   rcases hs' with ⟨pl,rfl⟩ | ⟨pl,rfl⟩
   ·refine ⟨rfl,fun p cs dd hrt hst' => ?_⟩
    rw[hgd] at hrt
    rw[hdirt p cs dd hrt,GW] at hst'
    simp at hst'
   ·refine ⟨rfl,fun p cs dd hrt hst' => ?_⟩
    rw[hgd] at hrt
    rw[hdirt p cs dd hrt,Fv] at hst'
    simp at hst'
 ·intro j hj k hk hjk x hx' y hy
  by_cases hjd:j=d
  ·by_cases hkd:k=d
   ·exact absurd (hjd.trans hkd.symm) hjk
   ·simp[hkd] at hy
  ·simp[hjd] at hx'
theorem Ip (H:DT C o w a σ Lt cv fp) {d k:Nat} {v:V} {s':AA} {x:Value} {vs:List Value} {f fr:Fp} (hd:o.dst=some d) (hk:k<1000000) (hkd:k≠d)
  (hr:(execOp a.eval o).run C.P w = .ok (.value x) w) (hc:AD v.agg x vs) (hR:R w C.Fz Lt σ.g v.p v.cs vs f) (hL:FA C w σ Lt cv fp f k s' fr) :
  AN C o a w ⟨Ae [(d,.val v.agg v.p v.cs BD 0),(k,s')] σ.env,σ.g⟩:=by
 have hst:=H.st
 have hnd:(([(d,.val v.agg v.p v.cs BD 0),(k,s')]:List (Nat × AA)).map (·.1)).Nodup:=by simp[hkd.symm]
 have hall:=hL.nodup
 rw[map_append,nodup_append] at hall
 refine AN.set [(d,.val v.agg v.p v.cs BD 0),(k,s')] (fun j=>if j=d then x else cv j) (fun j=>if j=d then f else fr) H (Ab.refl _ _) hr hnd (fun j hj hm => ?_) (fun d' hd' => ?_) (fun j n hj hn h16 i hi hm => ?_) (fun j s1 hm => ?_) ?_
 ·rw[hd];simp only[zS]
  by_cases h:j=d
  ·rw[if_pos h,if_pos h.symm]
  ·rw[if_neg h,if_neg (fun e=>h e.symm)]
 ·rw[hd] at hd';simp only[zS] at hd';subst hd';simp
 ·rw[if_neg (KF H hd j i)]
 ·rcases I6 hm with ⟨rfl,rfl⟩ | ⟨rfl,rfl⟩
  ·simp only[if_true]
   exact ⟨⟨vs,by simpa using hc,hR,by simp⟩,hall.1,by simp[AA.looks],fun _ _=>⟨AC.all (fun p cs dd hrt=>by simp only[AA.root,zS,zP] at hrt;exact hrt.2.2.symm),trivial⟩,fun y hy => .inr ⟨k,by simp,hL.took y hy⟩⟩
  ·simp only[if_neg hkd]
   exact ⟨hL.slot _ _ (by simp[hkd]),hall.2.1,by rw[hL.looks];simp,fun _ hs=>hL.keep hs,fun y hy => .inr ⟨j,by simp,hL.rest y hy⟩⟩
 ·intro j hj k' hk' hjk y hy z hz
  by_cases hjd:j=d
  ·have hkd':¬ k'=d:=fun e=>hjk (hjd.trans e.symm)
   simp only[if_pos hjd] at hy
   simp only[if_neg hkd'] at hz
   exact hall.2.2 _ (mem_map.2 ⟨y,hy,rfl⟩) _ (mem_map.2 ⟨z,hz,rfl⟩)
  ·simp only[if_neg hjd] at hy
   by_cases hkd':k'=d
   ·simp only[if_pos hkd'] at hz
    exact fun e=>hall.2.2 _ (mem_map.2 ⟨z,hz,rfl⟩) _ (mem_map.2 ⟨y,hy,rfl⟩) e.symm
   ·simp only[map_cons,map_nil,mem_cons,List.not_mem_nil,or_false] at hj hk'
    rcases hj with rfl | rfl
    ·exact absurd rfl hjd
    ·rcases hk' with rfl | rfl
     ·exact absurd rfl hkd'
     ·exact absurd rfl hjk
theorem En (H:DT C o w a σ Lt cv fp) {d:Nat} {s:AA} {v:Value} (hd:o.dst=some d)
  (hr:(execOp a.eval o).run C.P w = .ok (.value v) w)
  (hs:AR C w Lt σ.g (fun k=>if k=d then v else cv k) ((d,s)::σ.env) d [] s) (hdirt:∀ p cs dd,s.root=some (p,cs,dd)→dd=BD) (hso:AI s)
  (hlk:∀ k∈s.looks,k≠d∧k<1000000∧AI (AE σ.env k)) :
  AN C o a w ⟨Ae [(d,s)] σ.env,σ.g⟩:=by
 have hst:=H.st
 have hdt:(d:Nat)<1000000:=Nat.lt_of_lt_of_le (H.dst d hd) hst.size
 refine AN.set [(d,s)] (fun k=>if k=d then v else cv k) (fun k=>[]) H (Ab.refl _ _) hr (by simp) (fun k hk hm => ?_) (fun d' hd' => ?_) (fun k n hk hn h16 i hi hm => ?_) (fun k s1 hm => ?_) (by simp)
 ·rw[hd];simp only[zS]
  by_cases h:k=d
  ·rw[if_pos h,if_pos h.symm]
  ·rw[if_neg h,if_neg (fun e=>h e.symm)]
 ·rw[hd] at hd';simp only[zS] at hd';subst hd';simp
 ·rw[if_neg (KF H hd k i)]
 ·simp only[mem_singleton,zP] at hm
  obtain ⟨rfl,rfl⟩:=hm
  simp only[if_true]
  refine ⟨?_,by simp,fun k' hk' => ?_,fun _ _=>⟨?_,hso⟩,by simp⟩
  ·have e:(fun k'=>if k'∈List.map (fun x=>x.1) [(k,s1)] then if k'=k then v else cv k' else cv k')=fun k'=>if k'=k then v else cv k' :=by
    funext k'
    by_cases h:k'=k <;>simp[h]
   rw[e]
   exact hs
  ·obtain ⟨h1,h2,h3⟩:=hlk k' hk'
   refine ⟨h2,?_⟩
   simp only[Ae,BM]
   rw[if_neg (fun e=>h1 e.symm)]
   exact h3
  ·cases hrt:s1.root with
   | none=>exact AC.noRoot hrt
   | some=>exact AC.all hdirt
theorem KZ (H:DT C o w a σ Lt cv fp) {X:Operand} (hop:o.op = .assign X) {old:AA}
  {out:A9} (h:C4 C.E o (AB σ.env X) old=some out) (hfr:Av o σ out.ups) :
  out.g=none∧AN C o a w ⟨Ae out.ups σ.env,σ.g⟩:=by
 have hX:AT X:=H.opn X (by simp[hop,Op.operands])
 have hst:=H.st
 have hex:(execOp a.eval o).run C.P w = .ok (.value (a.eval X)) w:=by simp only[execOp,hop];rfl
 unfold C4 at h
 split at h
 ·simp at h
 split at h
 ·simp at h
 rename_i d hd
 cases X with
 | const c =>
   simp only[AB] at h
   split at h
   ·simp at h
   rename_i v hv
   simp only[zS] at h
   subst h
   obtain ⟨vs,h1,h2⟩:=Bu (w:=w) (Lt:=Lt) (Fz:=C.Fz) (g:=σ.g) hv
   exact ⟨rfl,En H hd hex ⟨vs,by simpa [Act.eval] using h1,h2,by simp⟩ (fun p cs dd hrt=>by simp only[AA.root,zS,zP] at hrt;exact hrt.2.2.symm) trivial (by simp[AA.looks])⟩
 | global g=>simp[AB] at h
 | func f=>simp[AB] at h
 | tmp t =>
   have ht:t<1000000:=hX
   rw[AJ] at h
   rw[Ay hst hX] at hex
   have hs:=hst.slots t
   cases hg:AE σ.env t with
   | val ag p cs dd pin =>
     simp only[hg] at h
     rw[hg] at hs
     obtain ⟨vs,h1,h2,-⟩:=hs
     split at h
     ·simp at h
     rename_i htd
     split at h
     ·rename_i hn
      simp only[zS] at h
      subst h
      have:=h2.noOwn hn
      rw[this] at h2
      exact ⟨rfl,En H hd hex ⟨vs,by simpa using h1,h2,by simp⟩ (fun p cs dd hrt=>by simp only[AA.root,zS,zP] at hrt;exact hrt.2.2.symm) trivial (by simp[AA.looks])⟩
     ·split at h
      ·simp at h
      rename_i hpin
      simp only[zS] at h
      subst h
      exact ⟨rfl,Fa H hd ht htd hex (fun cv' env' hc=>⟨vs,by rw[hc];exact h1,h2,by simp⟩) (fun p cs dd hrt=>by simp only[AA.root,zS,zP] at hrt;exact hrt.2.2.symm) (by simp[AA.root]) rfl (.inl ⟨_,rfl⟩)⟩
   | box p cs dd pin =>
     simp only[hg] at h
     rw[hg] at hs
     split at h
     ·simp at h
     rename_i htd
     split at h
     ·simp at h
     simp only[zS] at h
     subst h
     exact ⟨rfl,Fa H hd ht htd hex (fun cv' env' hc=>⟨by rw[hc];exact hs.1,by simp⟩) (fun p cs dd hrt=>by simp only[AA.root,zS,zP] at hrt;exact hrt.2.2.symm) (by simp[AA.root]) rfl (.inr ⟨_,rfl⟩)⟩
   | view k pl =>
     simp only[hg] at h
     have hlk:=hst.looks t k (by rw[hg];simp[AA.looks])
     split at h
     ·simp at h
     split at h
     ·simp at h
     rename_i hkd
     split at h
     ·rename_i a0 p cs dd pin hroot
      split at h
      ·simp at h
      rename_i hc
      split at h
      ·rename_i hpath
       split at h
       ·rename_i hc2
        simp only[zS] at h
        subst h
        simp only[Bool.or_eq_true,not_or,Bool.not_eq_true] at hc
        simp only[zB,decide_eq_true_eq] at hc2
        obtain ⟨⟨e1,e2⟩,e3⟩:=hc2
        rw[hg] at hs
        have hsk:=hst.slots k
        rw[hroot] at hsk
        obtain ⟨vs,h1,h2,-⟩:=hsk
        obtain ⟨vs0,base0,el1,rv,base,k1,k2,k3,-⟩:=hs.2 p cs dd (by rw[hroot];rfl) hc.2
        rw[hroot] at k1
        obtain rfl:=k1.1.uniq h1
        rw[hpath] at k2
        simp only[A8,zS,zP] at k2
        obtain ⟨rfl,rfl,rfl⟩:=k2
        have k4:AD pl.agg (cv t) vs0:=by
         simp only[Desk.pick,e1,e2,e3,HL,drop_zero] at k3
         rw[← h2.length_eq.2,take_length] at k3
         exact k3
        exact ⟨rfl,Fa H hd hlk.1 hkd hex (fun cv' env' hc=>⟨vs0,by rw[hc];exact k4,h2,by simp⟩) (fun p cs dd hrt=>by simp only[AA.root,zS,zP] at hrt;exact hrt.2.2.symm) (by simp[AA.root]) rfl (.inl ⟨_,rfl⟩)⟩
       ·simp at h
      ·rename_i hpath
       split at h
       ·simp at h
       rename_i hpn
       split at h
       ·simp at h
       rename_i v hv
       split at h
       ·simp at h
       rename_i el rcs hra
       split at h
       ·simp at h
       rename_i hs9 hh
       simp only[zS] at h
       subst h
       simp only[Bool.or_eq_true,not_or,Bool.not_eq_true] at hc
       have hpos:0<pl.n:=by
        simp only[Nat.ble_eq] at hpn
        omega
       obtain ⟨vs,f,fr,q1,q2,q3⟩:=JB hst hg (fun e=>hpath e) (by rw[hroot];rfl) (by simp[hc.2]) hv hra hh hpos
       exact ⟨rfl,Ip H hd hlk.1 hkd hex q1 q2 q3⟩
     ·rename_i p cs dd pin hroot
      split at h
      ·simp at h
      rename_i hc
      split at h
      ·simp at h
      ·rename_i hpath
       split at h
       ·simp at h
       rename_i hpn
       split at h
       ·simp at h
       rename_i v hv
       split at h
       ·simp at h
       rename_i el rcs hra
       split at h
       ·simp at h
       rename_i hs9 hh
       simp only[zS] at h
       subst h
       have hpos:0<pl.n:=by
        simp only[Nat.ble_eq] at hpn
        omega
       obtain ⟨vs,f,fr,q1,q2,q3⟩:=JB hst hg (fun e=>hpath e) (by rw[hroot];rfl) hc hv hra hh hpos
       exact ⟨rfl,Ip H hd hlk.1 hkd hex q1 q2 q3⟩
     ·simp at h
   | ptr k pl =>
     simp only[hg] at h
     have hlk:=hst.looks t k (by rw[hg];simp[AA.looks])
     rw[hg] at hs
     split at h
     ·simp at h
     split at h
     ·simp at h
     rename_i hkd
     simp only[zS] at h
     subst h
     refine ⟨rfl,En H hd hex (hs.copy (.inr (.inl ⟨_,_,rfl⟩)) (by simp only[AA.looks,mem_singleton];exact fun e=>hkd e.symm)) (by simp[AA.root]) trivial ?_⟩
     simp only[AA.looks,mem_singleton,forall_eq]
     exact ⟨hkd,hlk⟩
   | clo f caps =>
     simp only[hg,zS] at h
     subst h
     rw[hg] at hs
     have e:(caps.map (fun c=>(c.1,c.2,AE σ.env c.1))).map (fun c=>(c.1,c.2.1))=caps:=by
      rw[map_map];simp[Function.comp_def]
     simp only[e] at hfr ⊢
     obtain ⟨h1,-⟩:=B9 (s:=.clo f caps) (hfr d hd) hd (by simp[AE])
     refine ⟨trivial,En H hd hex (hs.copy (.inr (.inr ⟨_,_,rfl⟩)) h1) (by simp[AA.root]) trivial ?_⟩
     intro k' hk'
     exact ⟨fun e=>h1 (e ▸ hk'),hst.looks t k' (by rw[hg];exact hk')⟩
   | tup n=>simp[hg] at h
   | _=>simp[hg] at h
end
theorem EV {t i t' i':Nat} (hi:i<16) (hi':i'<16) (h:AF t i=AF t' i'):t=t'∧i=i' :=by
 unfold AF at h;omega
theorem Ep {t:Nat}:∀ {cs:List AA} {i k:Nat} {s:AA},(k,s)∈CH t i cs↔∃ j,k=AF t (i+j)∧cs[j]?=some s
 | [],i,k,s=>by simp[CH]
 | c::cs,i,k,s=>by
   simp only[CH,mem_cons,zP,Ep (cs:=cs)]
   constructor
   ·rintro (⟨rfl,rfl⟩ | ⟨j,rfl,h⟩)
    ·exact ⟨0,rfl,rfl⟩
    ·exact ⟨j+1,by rw[show i+(j+1)=i+1+j by omega],by simpa using h⟩
   ·rintro ⟨j,rfl,h⟩
    cases j with
    | zero=>simp at h;exact .inl ⟨rfl,h.symm⟩
    | succ j=>exact .inr ⟨j,by rw[show i+(j+1)=i+1+j by omega],by simpa using h⟩
theorem A5 {t:Nat} {cs:List AA} {i k:Nat}:k∈(CH t i cs).map (·.1)↔∃ j,j<cs.length∧k=AF t (i+j):=by
 simp only[mem_map,Prod.exists,exists_and_right,exists_eq_right,Ep]
 constructor
 ·rintro ⟨s,j,rfl,h⟩
  refine ⟨j,?_,rfl⟩
  rcases Nat.lt_or_ge j cs.length with h' | h'
  ·exact h'
  ·simp[List.getElem?_eq_none h'] at h
 ·rintro ⟨j,hj,rfl⟩
  exact ⟨cs[j],j,rfl,by simp[hj]⟩
theorem DV {t:Nat}:∀ {cs:List AA} {i:Nat},((CH t i cs).map (·.1)).Nodup
 | [],i=>by simp[CH]
 | c::cs,i=>by
   simp only[CH,map_cons,nodup_cons]
   refine ⟨fun hm => ?_,DV⟩
   obtain ⟨j,-,e⟩:=A5.1 hm
   unfold AF at e
   omega
theorem DA (n:Nat):(G6 n).length=n:=by
 induction n with
 | zero=>rfl
 | succ n ih=>simp[G6,ih]
theorem Hl (n i:Nat) (h:i<n):(G6 n)[i]?=some i:=by
 induction n with
 | zero=>omega
 | succ n ih =>
   simp only[G6]
   rcases Nat.lt_or_ge i n with h' | h'
   ·rw[List.getElem?_append_left (by rw[DA];exact h')];exact ih h'
   ·have:i=n:=by omega
    subst this
    rw[List.getElem?_append_right (by rw[DA];exact Nat.le_refl _)]
    simp[DA]
section
variable {C:BU} {w w':World} {a a':Act} {σ:AS} {Lt Lt':Nat→Nat→Prop} {cv cv':Nat→Value} {fp fpU:Nat→Fp} {g g':Nat} {env':List (Nat × AA)} {o:Oper} {Fz:Nat→Prop}
theorem AR.plain {env env':List (Nat × AA)} {k k':Nat} {s:AA} {f:Fp} (h:AR C w Lt g cv env k f s) (hp:s.plain=true) (hc:cv' k'=cv k):AR C w Lt g cv' env' k' f s:=by
 cases s with
 | val ag p cs d pin =>
   cases pin with
   | zero=>obtain ⟨vs,h1,h2,-⟩:=h;exact ⟨vs,by rw[hc];exact h1,h2,by simp⟩
   | succ=>simp[AA.plain] at hp
 | box p cs d pin =>
   cases pin with
   | zero=>exact ⟨by rw[hc];exact h.1,by simp⟩
   | succ=>simp[AA.plain] at hp
 | gone=>exact h
 | dead=>exact h
 | _=>simp[AA.plain] at hp
theorem Me {s:AA} (h:s.plain=true):s.looks=[]:=by
 cases s <;>simp_all [AA.plain,AA.looks]
theorem KR (H:DT C o w a σ Lt cv fp) {t d:Nat} (hd:o.dst=some d) (ht:t<1000000) (hr:(execOp a.eval o).run C.P w = .ok (.value (a.eval (.tmp t))) w) {cs:List AA}
  (hres:AB σ.env (.tmp t) = .tup t cs)
  {out:A9} (h:BW C.E o (.tup t cs)=some out) :
  out.g=none∧AN C o a w ⟨Ae out.ups σ.env,σ.g⟩:=by
 have hst:=H.st
 rw[Ay hst ht] at hr
 rw[AJ] at hres
 obtain ⟨n,htup,rfl⟩:∃ n,AE σ.env t = .tup n∧cs=(G6 n).map fun i=>AE σ.env (AF t i):=by
  cases hg:AE σ.env t <;>simp[hg] at hres
  rename_i n
  exact ⟨n,rfl,hres.symm⟩
 simp only[BW,hd] at h
 split at h
 ·simp at h
 rename_i hc
 simp only[Bool.or_eq_true,not_or,Bool.not_eq_true,decide_eq_false_iff_not,Bool.not_eq_false'] at hc
 obtain ⟨⟨c1,c2⟩,c3⟩:=hc
 simp only[zS] at h
 subst h
 have hlen:((G6 n).map fun i=>AE σ.env (AF t i)).length=n:=by simp[DA]
 rw[hlen] at c2
 have hn16:n<16:=by
  rcases Nat.lt_or_ge n 16 with h | h
  ·exact h
  ·have:Nat.ble 16 n=true:=by rw[Nat.ble_eq];exact h
   rw[this] at c2;simp at c2
 have hs:=hst.slots t
 rw[htup] at hs
 obtain ⟨-,vs,t1,t2,t3,t4⟩:=hs
 have hdt:(d:Nat)<1000000:=Nat.lt_of_lt_of_le (H.dst d hd) hst.size
 have hcs:∀ j s,((G6 n).map fun i=>AE σ.env (AF t i))[j]?=some s→j<n∧s=AE σ.env (AF t j):=by
  intro j s hj
  have hjn:j<n:=by
   rcases Nat.lt_or_ge j n with h | h
   ·exact h
   ·rw[List.getElem?_eq_none (by rw[hlen];exact h)] at hj;simp at hj
  rw[List.getElem?_map,Hl n j hjn] at hj
  simp at hj
  exact ⟨hjn,hj.symm⟩
 have hplain:∀ j,j<n→(AE σ.env (AF t j)).plain=true:=by
  intro j hj
  rw[all_eq_true] at c3
  exact c3 _ (mem_map.2 ⟨j,List.mem_of_getElem? (Hl n j hj),rfl⟩)
 have hvd:∀ k i:Nat,AF k i≠d:=fun k i=>by have:=BN k i;omega
 have hvt:∀ k i:Nat,AF k i≠t:=fun k i=>by have:=BN k i;omega
 generalize hus:(((d,AA.tup ((G6 n).map fun i=>AE σ.env (AF t i)).length)::(t,.gone)::(CH d 0 ((G6 n).map fun i=>AE σ.env (AF t i))++CH t 0 (((G6 n).map fun i=>AE σ.env (AF t i)).map fun _ => .gone))):List (Nat × AA))=us
 have hmem:∀ k s,(k,s)∈us↔(k=d∧s = .tup n)∨(k=t∧s = .gone)∨(∃ j,j<n∧k=AF d j∧s=AE σ.env (AF t j))∨(∃ j,j<n∧k=AF t j∧s = .gone):=by
  intro k s
  rw[← hus]
  simp only[mem_cons,mem_append,zP,Ep,hlen,Nat.zero_add]
  refine or_congr Iff.rfl (or_congr Iff.rfl (or_congr ?_ ?_))
  ·constructor
   ·rintro ⟨j,rfl,hj⟩
    obtain ⟨h1,h2⟩:=hcs j s hj
    exact ⟨j,h1,rfl,h2⟩
   ·rintro ⟨j,h1,rfl,rfl⟩
    exact ⟨j,rfl,by rw[List.getElem?_map,Hl n j h1];rfl⟩
  ·constructor
   ·rintro ⟨j,rfl,hj⟩
    rw[List.getElem?_map] at hj
    cases hx:((G6 n).map fun i=>AE σ.env (AF t i))[j]? with
    | none=>simp[hx] at hj
    | some s' =>
      simp[hx] at hj
      exact ⟨j,(hcs j s' hx).1,rfl,hj.symm⟩
   ·rintro ⟨j,h1,rfl,rfl⟩
    refine ⟨j,rfl,?_⟩
    rw[List.getElem?_map,List.getElem?_map,Hl n j h1];rfl
 have hkeys:∀ k,k∈us.map (·.1)↔k=d∨k=t∨(∃ j,j<n∧k=AF d j)∨(∃ j,j<n∧k=AF t j):=by
  intro k
  simp only[mem_map,Prod.exists,exists_and_right,exists_eq_right]
  constructor
  ·rintro ⟨s,hs⟩
   rcases (hmem k s).1 hs with h | h | ⟨j,h1,h2,-⟩ | ⟨j,h1,h2,-⟩
   ·exact .inl h.1
   ·exact .inr (.inl h.1)
   ·exact .inr (.inr (.inl ⟨j,h1,h2⟩))
   ·exact .inr (.inr (.inr ⟨j,h1,h2⟩))
  ·rintro (h | h | ⟨j,h1,h2⟩ | ⟨j,h1,h2⟩)
   ·exact ⟨_,(hmem k _).2 (.inl ⟨h,rfl⟩)⟩
   ·exact ⟨_,(hmem k _).2 (.inr (.inl ⟨h,rfl⟩))⟩
   ·exact ⟨_,(hmem k _).2 (.inr (.inr (.inl ⟨j,h1,h2,rfl⟩)))⟩
   ·exact ⟨_,(hmem k _).2 (.inr (.inr (.inr ⟨j,h1,h2,rfl⟩)))⟩
 have hdtne:∀ j j',j<n→j'<n→AF d j≠AF t j' :=fun j j' h1 h2 e=>c1 (EV (by omega) (by omega) e).1
 have hnd:(us.map (·.1)).Nodup:=by
  rw[← hus]
  simp only[map_cons,map_append,nodup_cons,mem_cons,mem_append,A5,nodup_append,hlen,length_map]
  refine ⟨?_,?_,DV,DV,?_⟩
  ·rintro (h | ⟨j,-,h⟩ | ⟨j,-,h⟩)
   ·exact c1 h
   ·exact hvd _ _ h.symm
   ·exact hvd _ _ h.symm
  ·rintro (⟨j,-,h⟩ | ⟨j,-,h⟩)
   ·exact hvt _ _ h.symm
   ·exact hvt _ _ h.symm
  ·rintro b hb b' hb' e
   obtain ⟨j,h1,rfl⟩:=hb
   obtain ⟨j',h2,rfl⟩:=hb'
   simp only[Nat.zero_add] at e
   exact hdtne j j' h1 h2 e
 let val:Nat→Value:=fun k=>if k=d then cv t else if AF d 0≤k∧k<AF d 0+n then cv (AF t 0+(k - AF d 0)) else cv k
 let fn:Nat→Fp:=fun k=>if AF d 0≤k∧k<AF d 0+n then fp (AF t 0+(k - AF d 0)) else []
 have hvv:∀ j,j<n→val (AF d j)=cv (AF t j):=by
  intro j hj
  show (if AF d j=d then _ else _)=_
  rw[if_neg (hvd d j),if_pos (by unfold AF;omega)]
  congr 1;unfold AF;omega
 have hfv:∀ j,j<n→fn (AF d j)=fp (AF t j):=by
  intro j hj
  show (if _ then _ else _)=_
  rw[if_pos (by unfold AF;omega)]
  congr 1;unfold AF;omega
 have hfs:∀ k:Nat,k<1000000→fn k=[]:=by
  intro k hk
  show (if _ then _ else _)=_
  rw[if_neg (by unfold AF;omega)]
 have hft:∀ j,j<n→fn (AF t j)=[]:=by
  intro j hj
  show (if _ then _ else _)=_
  rw[if_neg]
  intro hc
  have e:AF t j=AF d (AF t j - AF d 0):=by unfold AF at *;omega
  exact hdtne (AF t j - AF d 0) j (by omega) hj e.symm
 have hfnk:∀ k∈us.map (·.1),∀ x∈fn k,∃ j,j<n∧k=AF d j∧x∈fp (AF t j):=by
  intro k hk x hx'
  rcases (hkeys k).1 hk with rfl | rfl | ⟨j,h1,rfl⟩ | ⟨j,h1,rfl⟩
  ·rw[hfs _ hdt] at hx';simp at hx'
  ·rw[hfs _ ht] at hx';simp at hx'
  ·rw[hfv j h1] at hx';exact ⟨j,h1,rfl,hx'⟩
  ·rw[hft j h1] at hx';simp at hx'
 refine ⟨rfl,?_⟩
 simp only
 refine AN.set us val fn H (Ab.refl _ _) hr hnd (fun k hk hm => ?_) (fun d' hd' => ?_) (fun k m hk hm h16 i hi hv => ?_) (fun k s hm => ?_) ?_
 ·rw[hd]
  simp only[zS]
  show (if k=d then _ else _)=_
  by_cases h:k=d
  ·rw[if_pos h,if_pos h.symm]
  ·have e1:¬ d=k:=fun e=>h e.symm
   have e2:¬ (AF d 0≤k∧k<AF d 0+n):=by unfold AF;omega
   rw[if_neg h,if_neg e2,if_neg e1]
 ·rw[hd] at hd';simp only[zS] at hd';subst hd'
  exact (hkeys _).2 (.inl rfl)
 ·
  exfalso
  rw[hkeys] at hk hv
  rcases hv with h | h | ⟨j,h1,h2⟩ | ⟨j,h1,h2⟩
  ·exact hvd _ _ h
  ·exact hvt _ _ h
  ·exact hk (.inl (EV (by omega) (by omega) h2).1)
  ·exact hk (.inr (.inl (EV (by omega) (by omega) h2).1))
 ·have hin:∀ x∈fn k,w.heap.size≤x.b∨∃ k0∈us.map (·.1),x∈fp k0:=by
   intro x hx'
   obtain ⟨j,h1,-,h3⟩:=hfnk k (mem_map.2 ⟨_,hm,rfl⟩) x hx'
   exact .inr ⟨AF t j,(hkeys _).2 (.inr (.inr (.inr ⟨j,h1,rfl⟩))),h3⟩
  rcases (hmem k s).1 hm with ⟨rfl,rfl⟩ | ⟨rfl,rfl⟩ | ⟨j,h1,rfl,rfl⟩ | ⟨j,h1,rfl,rfl⟩
  ·have hk1:k∈us.map (·.1):=(hkeys _).2 (.inl rfl)
   refine ⟨⟨hfs _ hdt,vs,?_,t2,t3,fun i hi => ?_⟩,by rw[hfs _ hdt];simp,by simp[AA.looks],fun _ _=>⟨AC.noRoot rfl,trivial⟩,hin⟩
   ·simp only[if_pos hk1]
    show (if k=k then _ else _)=_
    rw[if_pos rfl];exact t1
   ·have hk2:AF k i∈us.map (·.1):=(hkeys _).2 (.inr (.inr (.inl ⟨i,hi,rfl⟩)))
    simp only[if_pos hk2]
    rw[hvv i hi];exact t4 i hi
  ·exact ⟨hfs _ ht,by rw[hfs _ ht];simp,by simp[AA.looks],fun _ _=>⟨AC.noRoot rfl,trivial⟩,hin⟩
  ·have hk1:AF d j∈us.map (·.1):=(hkeys _).2 (.inr (.inr (.inl ⟨j,h1,rfl⟩)))
   refine ⟨?_,by rw[hfv j h1];exact hst.nodup _,by rw[Me (hplain j h1)];simp,fun hk=>absurd hk (by have:=BN d j;omega),hin⟩
   rw[hfv j h1]
   refine (hst.slots (AF t j)).plain (hplain j h1) ?_
   simp only[if_pos hk1]
   exact hvv j h1
  ·exact ⟨hft j h1,by rw[hft j h1];simp,by simp[AA.looks],fun _ _=>⟨AC.noRoot rfl,trivial⟩,hin⟩
 ·intro j hj k hk hjk x hx' y hy
  obtain ⟨i1,h1,rfl,h3⟩:=hfnk j hj x hx'
  obtain ⟨i2,h4,rfl,h6⟩:=hfnk k hk y hy
  have:i1≠i2:=fun e=>hjk (by rw[e])
  exact hst.disj (AF t i1) (AF t i2) (fun e=>this (EV (by omega) (by omega) e).2) x h3 y h6
end
section
variable {C:BU} {w w':World} {a a':Act} {σ:AS} {Lt Lt':Nat→Nat→Prop} {cv cv':Nat→Value} {fp fpU:Nat→Fp} {g g':Nat} {env':List (Nat × AA)} {o:Oper} {Fz:Nat→Prop}
def Qe (W Lt Lt':Nat→Nat→Prop) (g g':Nat):Prop:=(g'=g∧Lt'=Lt∧∀ b j,Lt b j→¬ W b j)∨(g<g'∧Lt'=fun _ _=>False)
theorem R.turn {W:Nat→Nat→Prop} {ps ts vs f} (h:R w Fz Lt g ps ts vs f) (hx:Ab w w' W) (wF:∀ b j,Fz b→¬ W b j) (hg:Qe W Lt Lt' g g')
  (hf:∀ x∈f,∀ j,x.lo≤j→(j<x.hi∨j=x.lo)→¬ W x.b j):R w' Fz Lt' g' ps ts vs f:=by
 rcases hg with ⟨rfl,rfl,hl⟩ | ⟨hg,rfl⟩
 ·exact h.mono hx (fun _ h=>h) (fun _ _ h=>h) wF hl (fun x hx'=>⟨hf x hx',(h.lt x hx').2.2.2,h.noLtAbove x hx'⟩)
 ·exact (h.bump hg).mono hx (fun _ h=>h) (fun _ _ h=>h) wF (by simp) (fun x hx'=>⟨hf x hx',(h.lt x hx').2.2.2,by simp⟩)
theorem FA.turn {W:Nat→Nat→Prop} {f fr:Fp} {k:Nat} {s:AA} (h:FA C w σ Lt cv fp f k s fr) (hx:Ab w w' W) (wF:∀ b j,C.Fz b→¬ W b j) (hg:Qe W Lt Lt' σ.g g')
  (hf:∀ x∈fr,∀ j,x.lo≤j→(j<x.hi∨j=x.lo)→¬ W x.b j) :
  (∀ cv' env',cv' k=cv k→AR C w' Lt' g' cv' env' k fr s)∧(AI (AE σ.env k)→AC w w' (cv k) (AE σ.env k) (cv k) s∧AI s):=by
 refine ⟨fun cv' env' hc => ?_,fun hs => ?_⟩
 ·exact (h.slot cv' env' hc).mono (W:=W) hx rfl (fun _ _ _ _ _=>rfl) (fun _ _ _ hR=>hR.turn hx wF hg hf) (fun _ _ _ _ _=>hf) (by simp[h.looks])
 ·obtain ⟨h1,h2⟩:=h.keep hs
  exact ⟨h1.trans (AC.same (h.slot cv σ.env rfl) hx hf),h2⟩
theorem AN.write {W:Nat→Nat→Prop} {bW:Nat} {us:List (Nat × AA)} {f F:Fp} {k:Nat} {s:AA} (H:DT C o w a σ Lt cv fp) (hdn:o.dst=none)
  (hr:(execOp a.eval o).run C.P w = .ok .skip w') (hx:Ab w w' W) (hWb:∀ b j,W b j→b=bW)
  (hW:∀ b j,b<w.heap.size→W b j→C.w0.heap.size≤b∨C.Mut b j)
  (hg:Qe W Lt Lt' σ.g g') (hlt:∀ b j,Lt' b j→Lt b j)
  (hus:(us=[]∧f=[])∨∃ k s fr,us=[(k,s)]∧FA C w σ Lt cv fp f k s fr) (hk:k ∉ us.map (·.1)) (hk0:k<1000000)
  (hb:∃ x∈fp k,x.b=bW)
  (hs:AR C w' Lt' g' cv (Ae (us++[(k,s)]) σ.env) k F s) (hlk:s.looks=[]) (hkeep:AC w w' (cv k) (AE σ.env k) (cv k) s∧AI s)
  (hF:∀ x∈F,x∈fp k∨x∈f) (hFn:(F.map Fe.b).Nodup) :
  AN C o a w ⟨Ae (us++[(k,s)]) σ.env,g'⟩:=by
 have hst:=H.st
 refine AN.skip hr ⟨by rw[Act.put_defers'];exact H.df,?_⟩
 simp only[hdn,Act.put]
 obtain ⟨xb,hxb,rfl⟩:=hb
 have wF:∀ b j,C.Fz b→¬ W b j:=by
  intro b j hb hw
  obtain rfl:=hWb b j hw
  exact ((hst.slots k).inHeap hxb).2.2.2 hb
 have hfree:∀ k',k'≠k→∀ x∈fp k',∀ j,¬ W x.b j:=by
  intro k' hk' x hx' j hw
  exact hst.disj k' k hk' x hx' xb hxb (hWb _ _ hw)
 have hnlt:∀ k',∀ x∈fp k',∀ j,x.l≤j→¬ Lt' x.b j:=fun k' x hx' j hj hl=>(hst.slots k').noLt hx' j hj (hlt _ _ hl)
 have hgg:(g'=σ.g∧(∀ b j,Lt b j→Lt' b j)∧(∀ b j,Lt b j→¬ W b j))∨(σ.g<g'∧Lt'=fun _ _=>False):=by
  rcases hg with ⟨rfl,rfl,h⟩ | h
  ·exact .inl ⟨rfl,fun _ _ h=>h,h⟩
  ·exact .inr h
 have hltw:∀ b j,Lt' b j→b<w'.heap.size:=fun b j hb=>by have:=hst.lt b j (hlt b j hb);have:=hx.size;omega
 rcases hus with ⟨rfl,rfl⟩ | ⟨k2,s2,fr,rfl,hl⟩
 ·simp only[nil_append] at hs ⊢
  obtain ⟨fp',h'⟩:=hst.many (W:=W) (w' :=w') (g' :=g') (Lt' :=Lt') (a' :=a) [(k,s)] cv (fun _=>F) hx hW hgg (by simp)
   (fun k' hk'=>by rw[← hst.tmps k' hk'];split <;>rfl) hst.size
   (fun k' hk'=>⟨fun _ _ _ _ _ _=>rfl,fun x hx'=>⟨fun j _ _=>hfree k' (by simpa using hk') x hx' j,hnlt k' x hx'⟩⟩)
   (fun k' s' hm=>by
     simp only[mem_singleton,zP] at hm
     obtain ⟨rfl,rfl⟩:=hm
     refine ⟨?_,hFn,by rw[hlk];simp,fun _ _=>hkeep,fun x hx' => .inr ⟨k',by simp,?_⟩⟩
     ·have:(fun k''=>if k''∈List.map (fun x=>x.1) [(k',s')] then cv k'' else cv k'')=cv:=by funext k'';split <;>rfl
      rw[this];exact hs
     ·rcases hF x hx' with h | h
      ·exact ⟨x,h,rfl,Nat.le_refl _,Nat.le_refl _⟩
      ·simp at h) (by simp) hltw
  exact ⟨Lt',_,fp',h'⟩
 ·have hkk:k≠k2:=by simpa using hk
  have hfr:∀ x∈fr,∀ j,x.lo≤j→(j<x.hi∨j=x.lo)→¬ W x.b j:=fun x hx' j _ _=>hfree k2 hkk.symm x (hl.rest x hx') j
  obtain ⟨l1,l2⟩:=hl.turn hx wF hg hfr
  simp only[List.singleton_append] at hs ⊢
  have hnd:(([(k2,s2),(k,s)]:List (Nat × AA)).map (·.1)).Nodup:=by simp[hkk.symm]
  obtain ⟨fp',h'⟩:=hst.many (W:=W) (w' :=w') (g' :=g') (Lt' :=Lt') (a' :=a) [(k2,s2),(k,s)] cv (fun k'=>if k'=k then F else fr) hx hW hgg hnd
   (fun k' hk'=>by rw[← hst.tmps k' hk'];split <;>rfl) hst.size
   (fun k' hk'=>⟨fun _ _ _ _ _ _=>rfl,fun x hx'=>⟨fun j _ _=>hfree k' (by simp only[map_cons,mem_cons,not_or] at hk';exact hk'.2.1) x hx' j,hnlt k' x hx'⟩⟩)
   (fun k' s' hm=>by
     have ecv:(fun k''=>if k''∈List.map (fun x=>x.1) [(k2,s2),(k,s)] then cv k'' else cv k'')=cv:=by funext k'';split <;>rfl
     rw[ecv]
     rcases I6 hm with ⟨rfl,rfl⟩ | ⟨rfl,rfl⟩
     ·simp only[if_neg hkk.symm]
      refine ⟨l1 _ _ rfl,?_,by rw[hl.looks];simp,fun _ hs=>l2 hs,fun x hx' => .inr ⟨k',by simp,x,hl.rest x hx',rfl,Nat.le_refl _,Nat.le_refl _⟩⟩
      have:=hl.nodup
      rw[map_append,nodup_append] at this
      exact this.2.1
     ·simp only[if_true]
      refine ⟨hs,hFn,by rw[hlk];simp,fun _ _=>hkeep,fun x hx' => ?_⟩
      rcases hF x hx' with h | h
      ·exact .inr ⟨k',by simp,x,h,rfl,Nat.le_refl _,Nat.le_refl _⟩
      ·exact .inr ⟨k2,by simp,x,hl.took x h,rfl,Nat.le_refl _,Nat.le_refl _⟩)
   (fun j hj k' hk' hjk x hx' y hy=>by
     have key:∀ x∈F,∀ y∈fr,x.b≠y.b:=by
      intro x hx' y hy e
      rcases hF x hx' with h | h
      ·exact hst.disj k k2 hkk x h y (hl.rest y hy) e
      ·have:=hl.nodup
       rw[map_append,nodup_append] at this
       exact this.2.2 _ (mem_map.2 ⟨x,h,rfl⟩) _ (mem_map.2 ⟨y,hy,rfl⟩) e
     simp only[map_cons,map_nil,mem_cons,List.not_mem_nil,or_false] at hj hk'
     by_cases hj1:j=k
     ·by_cases hk1:k'=k
      ·exact absurd (hj1.trans hk1.symm) hjk
      ·rw[if_pos hj1] at hx'
       rw[if_neg hk1] at hy
       exact key x hx' y hy
     ·rw[if_neg hj1] at hx'
      by_cases hk1:k'=k
      ·rw[if_pos hk1] at hy
       exact fun e=>key y hy x hx' e.symm
      ·rcases hj with h | h
       ·rcases hk' with h' | h'
        ·exact absurd (h.trans h'.symm) hjk
        ·exact absurd h' hk1
       ·exact absurd h hj1) hltw
  exact ⟨Lt',_,fp',h'⟩
theorem M7 {P:Program} {E:AX} {t:Nat} {d:TD} (h:GN P E t d) {b off:Nat} {row:Array Value} {e:TypeId} {fr:Nat × Nat} {x:Value} {vs:List Value} (hb:w.heap[b]?=some (.cells row e fr))
  (hv:x.cells.toList=vs) (hl:vs.length=d.sz) (hr:off+d.sz≤row.size) (hf:∀ j,off≤j→j<off+d.sz→¬ (fr.1≤j∧j<fr.2)) (h1:∀ v∈vs,v.oneCell'=true) :
  (Instr.storeAt t (.pointer (some ⟨b,off,none⟩)) x).run P w = .ok () (H9 w b off vs):=by
 have hsz:x.cells.size=d.sz:=by rw[← hl,← hv];simp
 have:=Do (P:=P) vs w b off 0 row e fr hb (by omega) (fun j a c=>hf j (by omega) (by omega)) h1
 simp only[Instr.storeAt,Instr.sureAddr,Sem.run_bind,Sem.run_pure,Result.andThen_ok,storeVar,Es h,hsz,ne_eq,not_true_eq_false,if_false,hv]
 simpa using this
theorem HU {row row':Array Value} {off c N:Nat} {vs:List Value} (hc:c+vs.length≤N) (hr:off+N≤row.size) (hs:row'.size=row.size) (hv:seg row' (off+c) vs.length=vs)
  (ho:∀ j,¬ (off+c≤j∧j<off+c+vs.length)→row'[j]?=row[j]?):seg row' off N=(seg row off N).take c++(vs++(seg row off N).drop (c+vs.length)):=by
 have hl:(seg row off N).length=N:=Jv hr
 apply List.ext_getElem?
 intro j
 rcases Nat.lt_or_ge j c with h1 | h1
 ·rw[List.getElem?_append_left (by rw[length_take,hl];omega),List.getElem?_take,if_pos h1,seg_getElem?,seg_getElem?]
  split
  ·exact ho _ (by omega)
  ·rfl
 ·have htl:((seg row off N).take c).length=c:=by rw[length_take,hl];omega
  rw[List.getElem?_append_right (by omega),htl]
  rcases Nat.lt_or_ge (j - c) vs.length with h2 | h2
  ·rw[List.getElem?_append_left h2]
   have:=congrArg (fun l=>l[j - c]?) hv
   rw[← this,seg_getElem?,seg_getElem?,if_pos (by omega),if_pos h2]
   congr 1;omega
  ·rw[List.getElem?_append_right h2,List.getElem?_drop,seg_getElem?,seg_getElem?]
   by_cases h3:j<N
   ·rw[if_pos h3,if_pos (by omega),ho _ (by omega)]
    congr 1;omega
   ·rw[if_neg h3,if_neg (by omega)]
theorem MD {cs ts:List Pm} {i:Nat} (h:i+ts.length≤cs.length):(BH cs i ts).length=cs.length:=by
 rw[KD h];simp;omega
theorem L1 (H:DT C o w a σ Lt cv fp) {A X:Operand} {t:TypeId} (hop:o.op = .store t A X) (hdn:o.dst=none)
  {out:A9} {row:Bool} (h:D2 C.E σ.g t (AB σ.env A) (AB σ.env X)=some (out,row)) :
  AN C o a w ⟨Ae out.ups σ.env,if row then σ.g+1 else σ.g⟩:=by
 have hA:AT A:=H.opn A (by simp[hop,Op.operands])
 have hX:AT X:=H.opn X (by simp[hop,Op.operands])
 have H' :=H.lendAll
 have hst:=H'.st
 unfold D2 at h
 split at h
 ·simp at h
 rename_i d hd
 have hT:=H.ty t d hd
 have hpos:=hT.pos
 split at h
 ·simp at h
 rename_i k pl root hp
 obtain ⟨rfl,hk0,p,cs,dd,hroot,hseen,vs0,base0,el,rv,b,i,hrv,hcr,hev⟩:=D9 hst hA hp
 simp only[hroot] at h
 split at h
 ·simp at h
 rename_i v us htv
 split at h
 ·simp at h
 rename_i el' rcs hra
 obtain rfl:=Dl _ hra hcr
 split at h
 ·simp at h
 rename_i q hq
 split at h
 ·simp at h
 rename_i c0 hc0
 split at h
 ·rename_i hc
  obtain ⟨hvl,hkn⟩:=hc
  obtain ⟨vs,f,hcell,hRv,hfirm,hus⟩:=Fy hst (fun b j h => .inr h) hX htv
  have hcells:=hcell.cells hRv hfirm
  have hone:=hRv.oneCells hfirm
  have hvsl:vs.length=d.sz:=by rw[hRv.length_eq.2,← hRv.length_eq.1,hvl]
  have hkus:k ∉ us.map (·.1):=by
   intro hm
   obtain ⟨u,hu,e⟩:=mem_map.1 hm
   simp only[Bool.not_eq_true',any_eq_false,beq_iff_eq] at hkn
   exact hkn u hu e
  obtain ⟨vs1,base1,fI,hrv',hR,hsub,hk⟩:=(hst.slots k).rootR hroot
  obtain ⟨rfl,rfl⟩:=hrv.uniq hrv'
  have hfI:(fI.map Fe.b).Nodup:=by
   rcases hk with ⟨_,_,_,_,e⟩ | ⟨_,_,_,_,_,_,_,_,_,_,_,_,e,_⟩
   ·rw[e];exact hst.nodup k
   ·have:=hst.nodup k;rw[e] at this;simp only[map_cons,nodup_cons] at this;exact this.2
  have hfk:∀ x∈f,∀ y∈fp k,x.b≠y.b:=by
   intro x hx' y hy
   rcases hus with ⟨-,rfl⟩ | ⟨k2,s2,fr,rfl,hl⟩
   ·simp at hx'
   ·exact hst.disj k2 k (fun e=>hkus (by simp[e])) x (hl.took x hx') y hy
  have hfn:(f.map Fe.b).Nodup:=by
   rcases hus with ⟨-,rfl⟩ | ⟨k2,s2,fr,rfl,hl⟩
   ·simp
   ·have:=hl.nodup
    rw[map_append,nodup_append] at this
    exact this.1
  have hrun:∀ {row e fr},w.heap[b]?=some (.cells row e fr)→(i+ix el'.length pl.e pl.c)+d.sz≤row.size→(∀ j,i+ix el'.length pl.e pl.c≤j→j<i+ix el'.length pl.e pl.c+d.sz→¬ (fr.1≤j∧j<fr.2)) →
    (execOp a.eval o).run C.P w = .ok .skip (H9 w b (i+ix el'.length pl.e pl.c) vs):=by
   intro row e fr hb hsz hfree
   have:=M7 (P:=C.P) (x:=a.eval X) hT hb hcells hvsl hsz hfree hone
   simp only[execOp,hop,hev,Sem.run_bind,this]
   rfl
  have hxw:=J7 vs w b (i+ix el'.length pl.e pl.c)
  have hWok:∀ (fe:Fe),C.Ok fe→fe.b=b→fe.lo≤i+ix el'.length pl.e pl.c→i+ix el'.length pl.e pl.c+vs.length≤fe.t →
    ∀ b' j,b'<w.heap.size→(b'=b∧i+ix el'.length pl.e pl.c≤j∧j<i+ix el'.length pl.e pl.c+vs.length)→C.w0.heap.size≤b'∨C.Mut b' j:=by
   rintro fe hok hfb hlo hhi b' j - ⟨rfl,h1,h2⟩
   rcases hok with h | ⟨y,hy,e1,e2,e3⟩
   ·exact .inl (hfb ▸ h)
   ·exact .inr ⟨y,hy,e1.trans hfb,by omega,by omega⟩
  cases hpath:pl.path with
  | nil =>
    simp only[hpath] at h
    split at h
    ·simp at h
    rename_i hpin
    simp only[zS,zP] at h
    obtain ⟨rfl,rfl⟩:=h
    rw[hpath] at hra hcr
    simp only[rowAt,zS,zP] at hra
    obtain ⟨rfl,rfl⟩:=hra
    simp only[A8,zS,zP] at hcr
    obtain ⟨-,rfl,rfl⟩:=hcr
    have hix:=F4 hq hc0 hR.length_eq.1 hpos
    rw[hix] at hc0 hrun hxw hWok
    rcases hk with ⟨_,_,_,e,_⟩ | ⟨pin,b1,off,row,ety,fr,hgk,hbase,hcv,hb,hvs,hsz,hfpk,hp0,hz,hlt0,hfree⟩
    ·simp at e
    simp only[zS,zP] at hbase
    obtain ⟨rfl,rfl⟩:=hbase
    obtain ⟨f1,fm,f2,rfl,hlen,-,hset⟩:=hR.resubP hq hc0 hpos
    have hFe:(⟨b,i,i+p.length,0,i+p.length⟩:Fe)∈fp k:=by rw[hfpk];simp
    have hbI:∀ x∈f1++(fm++f2),x.b≠b:=by
     intro x hx' e
     have:=hst.nodup k
     rw[hfpk] at this
     simp only[map_cons,nodup_cons] at this
     exact this.1 (mem_map.2 ⟨x,hx',e⟩)
    have wF:∀ b' j,C.Fz b'→¬ (b'=b∧i+pl.c≤j∧j<i+pl.c+vs.length):=fun b' j h1 h2=>hz (h2.1 ▸ h1)
    have wL:∀ b' j,(Lt b' j∨G1 fp b' j)→¬ (b'=b∧i+pl.c≤j∧j<i+pl.c+vs.length):=fun b' j h1 h2=>hlt0 j (h2.1 ▸ h1)
    have hRv' :=hRv.turn hxw wF (.inl ⟨rfl,rfl,wL⟩) (fun x hx' j _ _ h2=>hfk x hx' _ hFe h2.1)
    obtain ⟨row',r1,r2,r3,r4⟩:=F9 vs w b (i+pl.c) row ety fr hb (by omega)
    have hnew:=hset _ _ _ v.p _ _ _ hxw (fun _ _ h=>h) wF wL (fun x hx'=>by
     have hx2:x∈f1++(fm++f2):=by
      simp only[mem_append] at hx' ⊢
      rcases hx' with h | h
      ·exact .inl h
      ·exact .inr (.inr h)
     exact ⟨fun j _ _ h2=>hbI x hx2 h2.1,hR.noLtAbove x hx2⟩) hRv' (by rw[← hRv.length_eq.1,hvl])
    have hpl':(BH p pl.c v.p).length=p.length:=MD (by rw[← hRv.length_eq.1,hvl];exact hlen)
    have hseg' :=HU (row:=row) (row' :=row') (off:=i) (c:=pl.c) (N:=p.length) (vs:=vs) (by omega) hsz r2 r3 r4
    rw[← hvs,hvsl] at hseg'
    have hbox:=R.rfO (ps:=[]) (ts:=[]) (vs:=[]) (fp₂:=[]) (by rw[hpl'];exact hp0) r1 hz hlt0 (by rw[hpl'];exact hseg') (by rw[hpl',r2];exact hsz) (by rw[hpl'];exact hfree) hnew .nil
    rw[hpl'] at hbox
    have:=AN.write (W:=fun b' j=>b'=b∧i+pl.c≤j∧j<i+pl.c+vs.length) (bW:=b) (us:=us) (f:=f) (g' :=σ.g) (k:=k) (s:=(AE σ.env k).withRoot (BH p pl.c v.p) (Aj cs pl.c v.cs) (([],pl.c,d.sz)::dd)) H' hdn
     (hrun hb (by omega) (fun j a c=>hfree j (by omega) (by omega))) hxw (fun _ _ h=>h.1)
     (hWok _ (hst.wok k _ hFe) rfl (by simp only;omega) (by simp only;omega)) (.inl ⟨rfl,rfl,wL⟩) (fun _ _ h=>h) hus hkus hk0 ⟨_,hFe,rfl⟩
     (F:=⟨b,i,i+p.length,0,i+p.length⟩::(f1++(f++f2)))
     (by
       rw[hgk]
       simp only[AA.withRoot]
       have hpp:pin=0:=by rw[hgk] at hpin;cases pin <;>simp[AA.pinned] at hpin ⊢
       refine ⟨?_,fun h=>absurd hpp h⟩
       rw[hcv]
       simpa using hbox)
     (by rw[hgk];rfl)
     (by
       refine ⟨AC.turned hroot hpl' (by simp) (fun vs2 base2 hr2 => ?_) (by simp),by rw[hgk];trivial⟩
       obtain ⟨-,rfl⟩:=hrv.uniq hr2
       rw[hgk]
       exact ⟨_,b,i,row',ety,fr,hcv,r1,rfl,rfl⟩)
     (fun x hx'=>by
       simp only[mem_cons,mem_append] at hx'
       rcases hx' with rfl | h | h | h
       ·exact .inl hFe
       ·exact .inl (hsub x (by simp[h]))
       ·exact .inr h
       ·exact .inl (hsub x (by simp[h])))
     (by
       have hIn:∀ x∈f1++f2,x∈fp k:=fun x hx'=>hsub x (by
        simp only[mem_append] at hx' ⊢
        rcases hx' with h | h
        ·exact .inl h
        ·exact .inr (.inr h))
       have h12:((f1++f2).map Fe.b).Nodup:=by
        have hp:(f1++(fm++f2)).Perm (fm++(f1++f2)):=by
         rw[← append_assoc,← append_assoc]
         exact perm_append_comm.append_right f2
        have:=(hp.map Fe.b).nodup_iff.1 hfI
        rw[map_append,nodup_append] at this
        exact this.2.1
       have hp2:(f1++(f++f2)).Perm (f++(f1++f2)):=by
        rw[← append_assoc,← append_assoc]
        exact perm_append_comm.append_right f2
       simp only[map_cons,nodup_cons]
       refine ⟨fun hm => ?_,(hp2.map Fe.b).nodup_iff.2 ?_⟩
       ·obtain ⟨x,hx',e⟩:=mem_map.1 hm
        simp only[mem_append] at hx'
        rcases hx' with h | h | h
        ·exact hbI x (by simp[h]) e
        ·exact hfk x h _ hFe e
        ·exact hbI x (by simp[h]) e
       ·rw[map_append,nodup_append]
        refine ⟨hfn,h12,fun a ha b' hb' e => ?_⟩
        obtain ⟨x,hx',rfl⟩:=mem_map.1 ha
        obtain ⟨y,hy,rfl⟩:=mem_map.1 hb'
        exact hfk x hx' y (hIn y hy) e)
    exact this
  | cons ec path' =>
    simp only[hpath] at h
    split at h
    ·rename_i hpq
     simp only[zS,zP] at h
     obtain ⟨rfl,rfl⟩:=h
     have hpq:=pbeqs_eq hpq
     rw[← hpath]
     have hpne:pl.path≠[]:=by rw[hpath];simp
     have hgg:σ.g<σ.g+1:=Nat.lt_succ_self _
     have hRb:=hR.bump hgg
     rw[← BI p] at hRb
     have hrne:rcs≠[]:=by
      rintro rfl
      have:=(Bh hc0).2.2 hpos
      simp at this;omega
     obtain ⟨m',rv',base',fpI,fpO,hcr',hRI,hperm,-,hcons,hset⟩:=hRb.focus (W:=fun b' j=>b'=b∧i+ix el'.length pl.e pl.c≤j∧j<i+ix el'.length pl.e pl.c+vs.length) pl.path base0 hfI hra hrne
     rw[hcr] at hcr'
     obtain ⟨-,rfl,rfl⟩:el'=el'∧rv=rv'∧some (b,i)=base' :=by simpa using hcr'
     obtain ⟨b1,i1,row,ety,fr,hbase,hrow⟩:=hcons hpne
     simp only[zS,zP] at hbase
     obtain ⟨rfl,rfl⟩:=hbase
     obtain ⟨fe,hfe,fe1,fe2,fe3,fe4⟩:=hrow.own
     have hfeI:fe∈fI:=hperm.mem_iff.2 (by simp[hfe])
     have hfek:fe∈fp k:=hsub fe hfeI
     obtain ⟨f1,fm,f2,rfl,hlen,-,hre⟩:=hRI.resub hq hc0 hpos
     have hbne:∀ x∈f1++(fm++f2),x.b≠b:=by
      intro x hx' e
      have:=(hperm.map Fe.b).nodup_iff.1 hfI
      rw[map_append,nodup_append] at this
      exact this.2.2 _ (mem_map.2 ⟨x,hx',rfl⟩) _ (mem_map.2 ⟨fe,hfe,rfl⟩) (by rw[e,fe1])
     have hnFz:¬ C.Fz b:=fe1 ▸ ((hst.slots k).inHeap hfek).2.2.2
     have wF:∀ b' j,C.Fz b'→¬ (b'=b∧i+ix el'.length pl.e pl.c≤j∧j<i+ix el'.length pl.e pl.c+vs.length):=fun b' j h1 h2=>hnFz (h2.1 ▸ h1)
     have hRv' :=hRv.turn (g' :=σ.g+1) (Lt' :=fun _ _=>False) hxw wF (.inr ⟨hgg,rfl⟩) (fun x hx' j _ _ h2=>hfk x hx' fe hfek (h2.1.trans fe1.symm))
     rw[hpq] at hRv'
     have hlr:=hrow.size
     obtain ⟨row',r1,r2,r3,r4⟩:=F9 vs w b (i+ix el'.length pl.e pl.c) row ety fr hrow.hb (by omega)
     have hnewI:=hre _ _ _ _ _ hxw wF (by simp) (fun x hx' j _ _ h2=>hbne x (by
      simp only[mem_append] at hx' ⊢
      rcases hx' with h | h
      ·exact .inl h
      ·exact .inr (.inr h)) h2.1) hRv'
     have hseg' :=HU (row:=row) (row' :=row') (off:=i) (c:=ix el'.length pl.e pl.c) (N:=m' * el'.length) (vs:=vs) (by omega) hlr r2 r3 r4
     rw[hrow.seg,hvsl] at hseg'
     obtain ⟨fp',hRn,hpermN⟩:=hset _ _ _ _ hxw wF (by simp) (fun x hx' hne j _ _ h2=>hne b i rfl h2.1) hnewI (fun b2 o2 hb2 _=>by
      simp only[zS,zP] at hb2
      obtain ⟨rfl,rfl⟩:=hb2
      exact ⟨row',ety,fr,r1,hseg',fun _ _ _ hb0=>by rw[hrow.hb] at hb0;simp only[zS,Obj.cells.injEq] at hb0;exact hb0.2.2⟩)
     rw[if_neg hpne,BI,← E8 pl.path (f:=fun rcs=>Aj rcs (ix el'.length pl.e pl.c) v.cs) hra] at hRn
     have hfp':∀ x∈fp',x∈fI∨x∈f:=by
      intro x hx'
      have:=hpermN.mem_iff.1 hx'
      simp only[mem_append] at this
      rcases this with (h | h | h) | h
      ·exact .inl (hperm.mem_iff.2 (by simp[h]))
      ·exact .inr h
      ·exact .inl (hperm.mem_iff.2 (by simp[h]))
      ·exact .inl (hperm.mem_iff.2 (by simp[h]))
     have hfpn:(fp'.map Fe.b).Nodup:=by
      have h1:(((f1++f2)++fpO).map Fe.b).Nodup:=by
       have hp:(f1++(fm++f2)++fpO).Perm (fm++((f1++f2)++fpO)):=by
        rw[perm_iff_count];intro z;simp only[count_append];omega
       have:=((hperm.trans hp).map Fe.b).nodup_iff.1 hfI
       rw[map_append,nodup_append] at this
       exact this.2.1
      have hp:fp'.Perm (f++((f1++f2)++fpO)):=hpermN.trans (by rw[perm_iff_count];intro z;simp only[count_append];omega)
      refine (hp.map Fe.b).nodup_iff.2 ?_
      rw[map_append,nodup_append]
      refine ⟨hfn,h1,fun a ha b' hb' e => ?_⟩
      obtain ⟨x,hx',rfl⟩:=mem_map.1 ha
      obtain ⟨y,hy,rfl⟩:=mem_map.1 hb'
      refine hfk x hx' y (hsub y (hperm.mem_iff.2 ?_)) e
      simp only[mem_append] at hy ⊢
      rcases hy with (h | h) | h
      ·exact .inl (.inl h)
      ·exact .inl (.inr (.inr h))
      ·exact .inr h
     have hcols:Dx pl.path≠[]:=by rw[hpath];simp[Dx]
     generalize hW:(fun b' j=>b'=b∧i+ix el'.length pl.e pl.c≤j∧j<i+ix el'.length pl.e pl.c+vs.length:Nat→Nat→Prop)=W at *
     have hWb:∀ b' j,W b' j→b'=b:=by rw[← hW];exact fun _ _ h=>h.1
     have hWok':∀ b' j,b'<w.heap.size→W b' j→C.w0.heap.size≤b'∨C.Mut b' j:=by
      rw[← hW]
      have:=((hst.slots k).inHeap hfek).2.2.1
      exact hWok fe (hst.wok k fe hfek) fe1 (by omega) (by omega)
     have hgo:=hrun hrow.hb (by omega) (fun j a c=>hrow.free j (by omega) (by omega))
     rcases hk with ⟨ag,pin,hgk,hbn,hfpk⟩ | ⟨pin,b0,off0,row0,ety0,fr0,hgk,hbase0,hcv,hb0,hvs,hsz,hfpk,hp0,hz,hlt0,hfree⟩
     ·have:=AN.write (W:=W) (bW:=b) (us:=us) (f:=f) (g' :=σ.g+1) (Lt' :=fun _ _=>False) (k:=k) (s:=(AE σ.env k).withRoot p (Ah p cs pl.path fun rcs=>Aj rcs (ix el'.length pl.e pl.c) v.cs) ((Dx pl.path,pl.c,d.sz)::dd)) (F:=fp') H' hdn
       hgo hxw hWb hWok' (.inr ⟨hgg,rfl⟩) (by simp) hus hkus hk0 ⟨fe,hfek,fe1⟩
       (by
         have hs:=hst.slots k
         rw[hgk] at hs ⊢
         rw[hgk] at hrv
         obtain ⟨vs9,q1,q2,q3⟩:=hs
         obtain rfl:=hrv.1.uniq q1
         exact ⟨vs0,q1,hRn,q3⟩)
       (by rw[hgk];rfl)
       (by
         refine ⟨AC.turned hroot rfl (fun _ vs2 base2 hr2 => ?_) (fun vs2 base2 hr2=>⟨vs2,?_⟩) (fun _=>⟨rfl,⟨_,hxw⟩,fun e c h=>Cq hpne e c h⟩),by rw[hgk];trivial⟩
         ·rw[hgk] at hr2 ⊢;exact hr2
         ·rw[hgk] at hr2 ⊢;exact hr2)
       (fun x hx'=>(hfp' x hx').imp (hsub x) id) hfpn
      exact this
     ·have hb0ne:b0≠b:=by
       intro e
       have:=hst.nodup k
       rw[hfpk] at this
       simp only[map_cons,nodup_cons] at this
       exact this.1 (mem_map.2 ⟨fe,hfeI,fe1.trans e.symm⟩)
      obtain ⟨row0',fr0',c1,c2,c3,c4⟩:=hxw.cells b0 row0 ety0 fr0 hb0
      have e0:fr0'=fr0:=c4.elim id fun x=>absurd (hWb _ _ (x.2 0 (Nat.zero_le _))) hb0ne
      rw[e0] at c1
      have hseg0:seg row0' off0 p.length=vs0:=by
       rw[hvs]
       exact Aw fun j _ _=>c3 j (fun hw=>hb0ne (hWb _ _ hw))
      have hFe:(⟨b0,off0,off0+p.length,0,off0+p.length⟩:Fe)∈fp k:=by rw[hfpk];simp
      have hbox:=R.rfO (w:=H9 w b (i+ix el'.length pl.e pl.c) vs) (Fz:=C.Fz) (Lt:=fun _ _=>False) (g:=σ.g+1) (ps:=[]) (ts:=[]) (vs:=[]) (fp₂:=[]) hp0 c1 hz (by simp) hseg0 (by rw[c2];exact hsz) hfree hRn .nil
      have:=AN.write (W:=W) (bW:=b) (us:=us) (f:=f) (g' :=σ.g+1) (Lt' :=fun _ _=>False) (k:=k) (s:=(AE σ.env k).withRoot p (Ah p cs pl.path fun rcs=>Aj rcs (ix el'.length pl.e pl.c) v.cs) ((Dx pl.path,pl.c,d.sz)::dd)) (F:=⟨b0,off0,off0+p.length,0,off0+p.length⟩::fp') H' hdn
       hgo hxw hWb hWok' (.inr ⟨hgg,rfl⟩) (by simp) hus hkus hk0 ⟨fe,hfek,fe1⟩
       (by
         have hs:=hst.slots k
         rw[hgk] at hs ⊢
         obtain ⟨-,q3⟩:=hs
         refine ⟨by rw[hcv];simpa using hbox,fun hpp => ?_⟩
         obtain ⟨b9,off9,row9,e9,fr9,q4,q5,q6⟩:=q3 hpp
         rw[hcv] at q4
         obtain ⟨rfl,rfl⟩:b0=b9∧off0=off9:=by simpa using q4
         rw[hb0] at q5
         obtain ⟨rfl,rfl,rfl⟩:row0=row9∧ety0=e9∧fr0=fr9:=by simpa using q5
         exact ⟨b0,off0,row0',ety0,fr0,hcv,c1,by rw[hseg0,hvs];exact q6⟩)
       (by rw[hgk];rfl)
       (by
         refine ⟨AC.turned hroot rfl (fun _ vs2 base2 hr2 => ?_) (fun vs2 base2 hr2=>⟨vs2,?_⟩) (fun _=>⟨rfl,⟨_,hxw⟩,fun e c h=>Cq hpne e c h⟩),by rw[hgk];trivial⟩
         all_goals
          obtain ⟨rfl,rfl⟩:=hrv.uniq hr2
          rw[hgk]
          exact ⟨b0,off0,row0',ety0,fr0,hcv,c1,hseg0.symm,hbase0⟩)
       (fun x hx'=>by
         rcases mem_cons.1 hx' with rfl | hx'
         ·exact .inl hFe
         ·exact (hfp' x hx').imp (hsub x) id)
       (by
         simp only[map_cons,nodup_cons]
         refine ⟨fun hm => ?_,hfpn⟩
         obtain ⟨x,hx',e⟩:=mem_map.1 hm
         rcases hfp' x hx' with h | h
         ·have:=hst.nodup k
          rw[hfpk] at this
          simp only[map_cons,nodup_cons] at this
          exact this.1 (mem_map.2 ⟨x,h,e⟩)
         ·exact hfk x h _ hFe e)
      exact this
    ·simp at h
 ·simp at h
end
section
variable {C:BU} {w w':World} {a a':Act} {σ:AS} {Lt Lt':Nat→Nat→Prop} {cv cv':Nat→Value} {fp fpU:Nat→Fp} {g g':Nat} {env':List (Nat × AA)} {o:Oper} {Fz:Nat→Prop}
theorem AN.madeW {W:Nat→Nat→Prop} {v:Value} {s:AA} {f:Fp} {us:List (Nat × AA)} {ft fr:Nat→Fp} (H:DT C o w a σ Lt cv fp) (hx:Ab w w' W)
  (hW:∀ b j,b<w.heap.size→W b j→C.w0.heap.size≤b∨C.Mut b j)
  (hWL:∀ b j,Lt b j→¬ W b j)
  (hWf:∀ k,k ∉ us.map (·.1)→∀ x∈fp k,∀ j,¬ W x.b j) (hWr:∀ k∈us.map (·.1),∀ x∈fr k,∀ j,¬ W x.b j)
  (hr:(execOp a.eval o).run C.P w = .ok (.value v) w') (hna:AH o.op=false)
  (hs:∀ cv' env' d,cv' d=v→AR C w' Lt σ.g cv' env' d f s) (hroot:s.root≠none) (hlk:s.looks=[])
  (hfr:Av o σ (AL o s++us)) (hnd:(us.map (·.1)).Nodup)
  (hus:∀ k t,(k,t)∈us→FA C w σ Lt cv fp (ft k) k t (fr k))
  (hfn:(f.map Fe.b).Nodup)
  (hf:∀ x∈f,w.heap.size≤x.b∨∃ k∈us.map (·.1),∃ y∈ft k,y.b=x.b∧y.lo≤x.lo∧x.t≤y.t) :
  AN C o a w ⟨Ae (AL o s++us) σ.env,σ.g⟩:=by
 have hst:=H.st
 refine AN.value hr ⟨by rw[Act.put_defers'];exact H.df,?_⟩
 have wF:∀ b j,C.Fz b→¬ W b j:=by
  intro b j hb hWb
  obtain ⟨hlt',hm⟩:=hst.fz b hb
  have:=hst.ext.size
  rcases hW b j (by omega) hWb with h1 | ⟨y,hy,e,-⟩
  ·omega
  ·exact hm y hy e
 have hfree:∀ k,k ∉ us.map (·.1)→∀ x∈fp k,(∀ j,x.lo≤j→(j<x.hi∨j=x.lo)→¬ W x.b j)∧∀ j,x.l≤j→¬ Lt x.b j:=fun k hk x hx'=>⟨fun j _ _=>hWf k hk x hx' j,(hst.slots k).noLt hx'⟩
 have hlt:∀ b j,Lt b j→b<w'.heap.size:=fun b j hb=>by have:=hst.lt b j hb;have:=hx.size;omega
 have hdis2:∀ j∈us.map (·.1),∀ k∈us.map (·.1),j≠k→∀ x∈fr j,∀ y∈fr k,x.b≠y.b:=by
  intro j hj k hk hjk x hx' y hy
  obtain ⟨⟨j,t⟩,hjm,rfl⟩:=mem_map.1 hj
  obtain ⟨⟨k,t'⟩,hkm,rfl⟩:=mem_map.1 hk
  exact hst.disj j k hjk x ((hus j t hjm).rest x hx') y ((hus k t' hkm).rest y hy)
 have hent:∀ (val:Nat→Value) (cv':Nat→Value) (env':List (Nat × AA)) (U:List (Nat × AA)),(∀ u∈us,u∈U)→∀ k t,(k,t)∈us→val k=cv k→cv' k=cv k →
   AR C w' Lt σ.g cv' env' k (fr k) t∧((fr k).map Fe.b).Nodup ∧
    (∀ k'∈t.looks,k'<1000000∧AI (AE env' k')) ∧
    (k<1000000→AI (AE σ.env k)→AC w w' (cv k) (AE σ.env k) (val k) t∧AI t) ∧
    (∀ x∈fr k,w.heap.size≤x.b∨∃ k0∈U.map (·.1),∃ y∈fp k0,y.b=x.b∧y.lo≤x.lo∧x.t≤y.t):=by
  intro val cv' env' U hU k t hm h1 h2
  have hl:=hus k t hm
  obtain ⟨l1,l2⟩:=hl.turn hx wF (.inl ⟨rfl,rfl,hWL⟩) (fun x hx' j _ _=>hWr k (mem_map.2 ⟨_,hm,rfl⟩) x hx' j)
  refine ⟨l1 _ _ h2,?_,by rw[hl.looks];simp,fun _ hs=>by rw[h1];exact l2 hs,fun x hx' => .inr ⟨k,mem_map.2 ⟨_,hU _ hm,rfl⟩,x,hl.rest x hx',rfl,Nat.le_refl _,Nat.le_refl _⟩⟩
  have:=hl.nodup
  rw[map_append,nodup_append] at this
  exact this.2.1
 cases hdst:o.dst with
 | none =>
   simp only[AL,hdst,nil_append,Act.put]
   obtain ⟨fp',h'⟩:=hst.many (W:=W) (w' :=w') (g' :=σ.g) (Lt' :=Lt) (a' :=a) us cv fr hx hW (.inl ⟨rfl,fun _ _ h=>h,hWL⟩) hnd
    (fun k hk=>by rw[← hst.tmps k hk];split <;>rfl) hst.size (fun k hk=>⟨fun _ _ _ _ _ _=>rfl,hfree k hk⟩)
    (fun k t hm=>hent cv _ _ us (fun _ h=>h) k t hm rfl (by simp)) hdis2 hlt
   exact ⟨Lt,_,fp',h'⟩
 | some d =>
   have hd:(d:Nat)<a.tmps.size:=H.dst d hdst
   have hdl:AL o s++us=(d,s)::us:=by simp[AL,hdst]
   rw[hdl] at hfr ⊢
   have hds:=hst.size
   obtain ⟨-,h2⟩:=B9 (s:=s) (hfr d hdst) hdst (by simp[AE])
   rw[hna] at h2
   have hfresh:A0 (AE σ.env d)=true:=by
    rcases h2 with h2 | h2 | h2
    ·simp at h2
    ·exact h2
    ·exact absurd h2 hroot
   have hdn:d ∉ us.map (·.1):=by
    intro hm
    obtain ⟨⟨k,t⟩,hm2,e⟩:=mem_map.1 hm
    simp only at e
    have:=(hus k t hm2).old
    rw[e,hfresh] at this
    simp at this
   have hnd':(((d,s)::us).map (·.1)).Nodup:=by simp only[map_cons,nodup_cons];exact ⟨hdn,hnd⟩
   have hne:∀ k,k∈us.map (·.1)→k≠d:=fun k hk e=>hdn (e ▸ hk)
   obtain ⟨fp',h'⟩:=hst.many (W:=W) (w' :=w') (g' :=σ.g) (Lt' :=Lt) (a' :=a.put (some d) v) ((d,s)::us) (fun k=>if k=d then v else cv k) (fun k=>if k=d then f else fr k) hx hW (.inl ⟨rfl,fun _ _ h=>h,hWL⟩) hnd'
    (fun k hk=>by
      rw[EX a d k v hd,← hst.tmps k hk]
      simp only[map_cons,mem_cons]
      by_cases hkd:k=d
      ·simp[hkd]
      ·simp[hkd]) (by rw[EW];exact hst.size)
    (fun k hk=>⟨fun _ _ _ i _ hi=>by
      have h1:=BN k i
      have h2:¬ (AF k i=d):=by
       intro e
       rw[e] at h1
       exact absurd (Nat.lt_of_lt_of_le hd hds) (Nat.not_lt.2 h1)
      exact if_neg h2,hfree k (fun hm=>hk (by simp only[map_cons,mem_cons];exact .inr hm))⟩)
    (fun k t hm=>by
      rcases mem_cons.1 hm with hm | hm
      ·obtain ⟨rfl,rfl⟩:k=d∧t=s:=by simpa using hm
       simp only[if_true]
       refine ⟨hs _ _ _ (by simp),hfn,by rw[hlk];simp,fun _ hs=>absurd hs (Aq hfresh),fun x hx' => ?_⟩
       rcases hf x hx' with h | ⟨k0,hk0,y,hy,hyx⟩
       ·exact .inl h
       ·obtain ⟨⟨k0,t0⟩,hm0,rfl⟩:=mem_map.1 hk0
        exact .inr ⟨k0,by simp[hk0],y,(hus k0 t0 hm0).took y hy,hyx⟩
      ·have hkm:k∈us.map (·.1):=mem_map.2 ⟨_,hm,rfl⟩
       have hkd:=hne k hkm
       simp only[if_neg hkd]
       exact hent cv (fun k'=>if k'∈((d,s)::us).map (·.1) then if k'=d then v else cv k' else cv k') (Ae ((d,s)::us) σ.env) ((d,s)::us) (fun _ h=>mem_cons_of_mem _ h) k t hm rfl (by simp[hkd]))
    (fun j hj k hk hjk x hx' y hy=>by
      simp only[map_cons,mem_cons] at hj hk
      have key:∀ k∈us.map (·.1),∀ x∈f,∀ y∈fr k,x.b≠y.b:=by
       intro k hk x hx' y hy e
       obtain ⟨⟨k,t⟩,hm,rfl⟩:=mem_map.1 hk
       have hl:=hus k t hm
       rcases hf x hx' with h | ⟨k0,hk0,z,hz,hzx,-⟩
       ·have:=((hst.slots k).inHeap (hl.rest y hy)).1
        omega
       ·obtain ⟨⟨k0,t0⟩,hm0,rfl⟩:=mem_map.1 hk0
        obtain ⟨hkk,-⟩:=hst.same ((hus k0 t0 hm0).took z hz) (hl.rest y hy) (hzx.trans e)
        simp only at hkk hz
        subst hkk
        have:=hl.nodup
        rw[map_append,nodup_append] at this
        exact this.2.2 _ (mem_map.2 ⟨z,hz,rfl⟩) _ (mem_map.2 ⟨y,hy,rfl⟩) (hzx.trans e)
      by_cases hjd:j=d
      ·by_cases hkd:k=d
       ·exact absurd (hjd.trans hkd.symm) hjk
       ·rw[if_pos hjd] at hx'
        rw[if_neg hkd] at hy
        exact key k (hk.resolve_left hkd) x hx' y hy
      ·rw[if_neg hjd] at hx'
       by_cases hkd:k=d
       ·rw[if_pos hkd] at hy
        exact fun e=>key j (hj.resolve_left hjd) y hy x hx' e.symm
       ·rw[if_neg hkd] at hy
        exact hdis2 j (hj.resolve_left hjd) k (hk.resolve_left hkd) hjk x hx' y hy) hlt
   exact ⟨Lt,_,fp',h'⟩
def HQ (C:BU) (w:World) (σ:AS) (Lt:Nat→Nat→Prop) (cv:Nat→Value) (fp:Nat→Fp) (us:List (Nat × AA)) (f:Fp):Prop :=
 (us=[]∧f=[])∨∃ k s fr,us=[(k,s)]∧FA C w σ Lt cv fp f k s fr
theorem JQ (h:BY C w a σ Lt cv fp) {x:Operand} {t1 n:Nat} {cs:List T} {el:List Pm} {us:List (Nat × AA)} (hx:AT x)
  (ht:Du C.E t1 (AB σ.env x)=some (n,cs,el,us)) :
  ∃ f,R w C.Fz Lt σ.g [.sl .own el] [.lst n cs] [a.eval x] f∧HQ C w σ Lt cv fp us f:=by
 unfold Du at ht
 split at ht
 ·rename_i el' n' cs' hv
  cases x with
  | const c =>
    simp only[AB,zS,zP] at ht
    obtain ⟨rfl,rfl,rfl,rfl⟩:=ht
    simp only[AB,AV] at hv
    obtain ⟨vs,h1,h2⟩:=Bu (w:=w) (Lt:=Lt) (Fz:=C.Fz) (g:=σ.g) hv
    obtain rfl:=Aa h1
    exact ⟨[],h2,.inl ⟨rfl,rfl⟩⟩
  | global=>simp[AB,AV] at hv
  | func=>simp[AB,AV] at hv
  | tmp t =>
    rw[Ay h hx]
    rw[AJ] at ht hv
    have hs:=h.slots t
    cases hg:AE σ.env t with
    | val ag p cs0 d pin =>
      simp only[hg] at ht hv
      simp only[AV,zS,V.mk.injEq] at hv
      obtain ⟨rfl,rfl,rfl⟩:=hv
      cases pin with
      | succ=>simp at ht
      | zero =>
        simp only[zS,zP] at ht
        obtain ⟨rfl,rfl,rfl,rfl⟩:=ht
        rw[hg] at hs
        obtain ⟨vs,h1,h2,-⟩:=hs
        obtain rfl:=Aa h1
        refine ⟨fp t,h2,.inr ⟨t,.gone,[],rfl,⟨fun _ _ _=>rfl,fun _ h=>h,by simp,by simpa using h.nodup t,rfl,fun _=>⟨AC.noRoot rfl,trivial⟩,?_⟩⟩⟩
        rw[hg]
        cases d <;>simp[A0,noOwns,Pm.noOwn]
    | view k pl =>
      simp only[hg] at ht hv
      split at ht
      ·simp at ht
      rename_i hpin
      cases hroot:(AE σ.env k).root with
      | none=>simp[hroot] at ht
      | some pcd =>
        obtain ⟨p,rcs,d⟩:=pcd
        simp only[hroot] at ht
        split at ht
        ·rename_i hpath
         simp only[zS,zP] at ht
         obtain ⟨rfl,rfl,rfl,rfl⟩:=ht
         simp only[AV,hroot] at hv
         split at hv
         ·simp at hv
         rename_i hst
         obtain ⟨el2,rcs2,a1,a2,-,-⟩:=Ac hv
         rw[hpath] at a1
         simp only[rowAt,zS,zP] at a1
         obtain ⟨rfl,rfl⟩:=a1
         have hn1:pl.n=1:=by have:=(An a2).2.1;simpa using this.symm
         obtain ⟨vs,f,fr,h1,h2,h3⟩:=JO h (p' :=[.dead]) hg hpath hroot hst hv (by omega) (by rw[hn1];rfl)
          (fun vs f hR _=>by
            have:=hR.length_eq
            obtain ⟨v,rfl⟩:∃ v,vs=[v]:=length_eq_one_iff.1 (by simpa using this.2)
            exact .dead .nil)
         obtain rfl:=Aa h1
         rw[hn1] at h3
         exact ⟨f,h2,.inr ⟨k,_,fr,rfl,h3⟩⟩
        ·rename_i hpath
         split at ht
         ·simp at ht
         rename_i el2 rcs2 hra
         simp only[zS,zP] at ht
         obtain ⟨rfl,rfl,rfl,rfl⟩:=ht
         simp only[AV,hroot] at hv
         split at hv
         ·simp at hv
         rename_i hst
         obtain ⟨el3,rcs3,a1,a2,-,-⟩:=Ac hv
         have hn1:pl.n=1:=by have:=(An a2).2.1;simpa using this.symm
         obtain ⟨vs,f,fr,h1,h2,h3⟩:=JB h hg (fun e=>hpath e) hroot hst hv hra (hs:=[.nil]) rfl (by omega)
         obtain rfl:=Aa h1
         rw[hn1] at h3
         exact ⟨f,h2,.inr ⟨k,_,fr,rfl,h3⟩⟩
    | _=>simp[hg,AV] at hv
 ·simp at ht
theorem C3 {P:Program} {b off n cap size:Nat} {row:Array Value} {e:TypeId} {fr:Nat × Nat} (hb:w.heap[b]?=some (.cells row e fr)) (h:off+n * size≤row.size) :
  (Builtin.firstCells size n (.slice (some ⟨b,off,none⟩) n cap)).run P w = .ok (seg row off (n * size)).toArray w:=by
 simp only[Builtin.firstCells]
 exact EE hb h
theorem D8 {P:Program} {g:Nat} {fl:Fl} {el:List Pm} {m:Nat} {cs:List T} {x:Value} {f0:Fp} (h:R w Fz Lt g [.sl fl el] [.lst m cs] [x] f0) (hl:fl.live g=true) :
  ∃ vs f1,R w Fz Lt g (rep m el) cs vs f1∧(∀ y∈f1,y∈f0)∧((f0.map Fe.b).Nodup→(f1.map Fe.b).Nodup) ∧
   (∀ w1,(Builtin.lenOf x).run P w1 = .ok m w1)∧(∀ w1:World,w1.heap=w.heap→(Builtin.firstCells el.length m x).run P w1 = .ok vs.toArray w1):=by
 obtain ⟨⟨ad,cap,hva⟩,hrow⟩:=GD h hl
 rcases hrow with ⟨ad',cap',hv',rfl,rfl,rfl,hne⟩ | ⟨b,off,cap',row,ety,fr,hv',h0,hb,-,hsz,f1,hR,hsub,hown⟩
 ·refine ⟨[],[],by simpa [rep] using R.nil,by simp,by simp,fun w1=>by rw[hv'];rfl,fun w1 _ => ?_⟩
  rw[hv']
  cases ad' with
  | none=>rfl
  | some ad=>simp[Builtin.firstCells,loadCells,loadCellsFrom]
 ·refine ⟨_,f1,hR,hsub,?_,fun w1=>by rw[hv'];rfl,fun w1 hw1 => ?_⟩
  ·rcases hown with ⟨-,rfl,rfl⟩ | ⟨-,-,-,-,-,rfl⟩
   ·simp
   ·simp only[map_cons,nodup_cons];exact fun h=>h.2
  ·rw[hv']
   exact C3 (by rw[hw1];exact hb) hsz
theorem Py {P:Program} {g:Nat} {el:List Pm} {m:Nat} {cs:List T} {x:Value} {f0:Fp} (h:R w Fz Lt g [.mv g el] [.lst m cs] [x] f0) :
  ∃ vs f1,R w Fz Lt g (rep m el) cs vs f1∧(∀ y∈f1,y∈f0)∧((f0.map Fe.b).Nodup→(f1.map Fe.b).Nodup) ∧
   (∀ w1,(Builtin.lenOf x).run P w1 = .ok m w1)∧(∀ w1:World,w1.heap=w.heap→(Builtin.firstCells el.length m x).run P w1 = .ok vs.toArray w1):=by
 cases h with
 | @mvE _ _ ad cap _ _ _ _ r =>
   cases r
   refine ⟨[],[],by simpa [rep] using R.nil,by simp,by simp,fun w1=>rfl,fun w1 _ => ?_⟩
   cases ad with
   | none=>rfl
   | some ad=>simp[Builtin.firstCells,loadCells,loadCellsFrom]
 | mvX hg=>omega
 | mvO h0 hb hl hs hr hi r =>
   cases r
   subst hs
   refine ⟨_,_,hi,by simp,by simp,fun w1=>rfl,fun w1 hw1 => ?_⟩
   exact C3 (by rw[hw1];exact hb) hr
theorem OP {E:AX} {g ty:Nat} {r:Ro} {v:V} {us:List (Nat × AA)} (h:FL E g ty r=some (v,us)):AV E ty r=some v:=by
 unfold FL at h
 split at h
 ·cases h
 rename_i v' hv
 split at h
 ·cases h
 split at h
 ·simp only[zS,zP] at h;rw[hv,h.1]
 ·split at h
  ·simp only[zS,zP] at h;rw[hv,h.1]
  ·split at h
   ·split at h
    ·cases h
    ·simp only[zS,zP] at h;rw[hv,h.1]
   ·split at h
    ·cases h
    ·split at h
     ·cases h
     ·split at h
      ·cases h
      ·split at h
       ·cases h
       ·simp only[zS,zP] at h;rw[hv,h.1]
  ·simp only[zS,zP] at h;rw[hv,h.1]
  ·cases h
theorem KE (h:BY C w a σ Lt cv fp) (hL:∀ b j,G1 fp b j→Lt b j) (hE:Bw C.P C.E) {x:Operand} {t2 m:Nat} {cs:List T} {el:List Pm} {us:List (Nat × AA)} (hx:AT x)
  (ht:Di C.E σ.g t2 (AB σ.env x)=some (m,cs,el,us)) :
  (C.P.underlying t2=some .string∨∃ e,C.P.underlying t2=some (.slice e)) ∧
  ∃ vs f ft,R w C.Fz Lt σ.g (rep m el) cs vs f∧(∀ y∈f,y∈ft)∧((ft.map Fe.b).Nodup→(f.map Fe.b).Nodup)∧(us=[]→f=[])∧HQ C w σ Lt cv fp us ft ∧
   (∀ w1,(Builtin.lenOf (a.eval x)).run C.P w1 = .ok m w1) ∧
   (∀ w1:World,w1.heap=w.heap→(Builtin.firstCells el.length m (a.eval x)).run C.P w1 = .ok vs.toArray w1):=by
 unfold Di at ht
 split at ht
 ·rename_i s hv
  split at ht
  ·rename_i hs
   simp only[zS,zP] at ht
   obtain ⟨rfl,rfl,rfl,rfl⟩:=ht
   obtain ⟨vs,f,h1,h2,-⟩:=Ag h hx hv
   obtain rfl:=Aa h1
   refine ⟨.inl (D4 hE hs),s.map (fun b=>Value.int .u8 b.toNat),[],[],?_,by simp,by simp,by simp,.inl ⟨rfl,rfl⟩,?_⟩
   ·clear h1 h2 hv
    induction s with
    | nil=>exact .nil
    | cons b s ih =>
      have e:rep (b::s).length [Pm.leaf] = .leaf::rep s.length [.leaf]:=by simp[rep,replicate_succ]
      rw[e]
      exact .leaf rfl ih
   ·cases h2 with
    | leaf hl r =>
      simp only[AG] at hl
      rw[hl]
      refine ⟨fun w1=>rfl,fun w1 _ => ?_⟩
      simp only[Builtin.firstCells,Sem.run_pure]
      congr 1
      apply Array.ext'
      simp only[Array.toList_map,ByteArray.data_extract]
      congr 1
      rw[Array.toList_extract]
      simp[List.extract]
  ·simp at ht
 ·rename_i fl el' m' cs' hv
  split at ht
  ·rename_i hc
   obtain ⟨c1,c2⟩:=hc
   obtain ⟨e,inf,t1,t2',t3⟩:=Bs hE c1
   obtain ⟨vs0,f0,h1,h2,-⟩:=Ag h hx hv
   obtain rfl:=Aa h1
   obtain ⟨vs,f1,hR,hs1,hs2,hl,hfc⟩:=D8 (P:=C.P) h2 c2
   refine ⟨.inr ⟨e,t1⟩,?_⟩
   split at ht
   ·rename_i hn
    simp only[zS,zP] at ht
    obtain ⟨rfl,rfl,rfl,rfl⟩:=ht
    have:=hR.noOwn (Nm hn)
    subst this
    exact ⟨vs,[],[],hR,by simp,by simp,fun _=>rfl,.inl ⟨rfl,rfl⟩,hl,hfc⟩
   ·rename_i hno
    cases x with
    | const c=>simp[AB] at ht
    | global=>simp[AB] at ht
    | func=>simp[AB] at ht
    | tmp t =>
      rw[AJ] at ht hv
      have hs:=h.slots t
      cases hg:AE σ.env t with
      | val ag p cs0 d pin =>
        simp only[hg] at ht hv
        simp only[AV,zS,V.mk.injEq] at hv
        obtain ⟨rfl,rfl,rfl⟩:=hv
        cases pin with
        | succ=>simp at ht
        | zero =>
          simp only[zS,zP] at ht
          obtain ⟨rfl,rfl,rfl,rfl⟩:=ht
          rw[hg] at hs
          obtain ⟨vs9,q1,q2,-⟩:=hs
          obtain rfl:=Aa q1
          obtain ⟨vs,f1,hR,hs1,hs2,hl,hfc⟩:=D8 (P:=C.P) q2 c2
          rw[Ay h hx]
          refine ⟨vs,f1,fp t,hR,hs1,hs2,by simp,.inr ⟨t,.gone,[],rfl,⟨fun _ _ _=>rfl,fun _ h=>h,by simp,by simpa using h.nodup t,rfl,fun _=>⟨AC.noRoot rfl,trivial⟩,?_⟩⟩,hl,hfc⟩
          rw[hg]
          have:noOwns [Pm.sl fl el']=false:=by
           cases fl <;>simp[noOwns,Pm.noOwn] <;>simpa using hno
          cases d <;>simp[A0,this]
      | view k pl =>
        simp only[hg] at ht
        split at ht
        case h_2=>simp at ht
        rename_i v us0 htv
        simp only[zS,zP] at ht
        obtain ⟨rfl,rfl,rfl,rfl⟩:=ht
        have htv:FL C.E σ.g t2 (AB σ.env (.tmp t))=some (v,us0):=by rw[AJ,hg];exact htv
        obtain ⟨vs9,f9,q1,q2,-,q4⟩:=Fy h hL hx htv
        obtain rfl:v=⟨false,[.sl fl el'],[.lst m' cs']⟩:=by
         have:=OP htv
         rw[AJ,hg] at this
         simp only[hg] at hv
         rw[hv] at this
         exact (Option.some.inj this).symm
        obtain rfl:=Aa q1
        obtain ⟨vs,f1,hR,hs1,hs2,hl,hfc⟩:=D8 (P:=C.P) q2 c2
        refine ⟨vs,f1,f9,hR,hs1,hs2,fun hu => ?_,q4,hl,hfc⟩
        rcases q4 with ⟨-,hf9⟩ | ⟨k',s',fr',hus,-⟩
        ·cases f1 with
         | nil=>rfl
         | cons y ys=>have:=hs1 y (by simp);rw[hf9] at this;simp at this
        ·rw[hu] at hus;cases hus
      | _=>simp[hg,AV] at hv
  ·simp at ht
 ·rename_i g' el' m' cs' hv
  split at ht
  ·rename_i hc
   obtain ⟨c1,rfl⟩:=hc
   obtain ⟨e,inf,t1,t2',t3⟩:=Bs hE c1
   refine ⟨.inr ⟨e,t1⟩,?_⟩
   cases x with
   | const c=>simp[AB] at ht
   | global=>simp[AB] at ht
   | func=>simp[AB] at ht
   | tmp t =>
     rw[AJ] at ht hv
     have hs:=h.slots t
     cases hg:AE σ.env t with
     | val ag p cs0 d pin =>
       simp only[hg] at ht hv
       simp only[AV,zS,V.mk.injEq] at hv
       obtain ⟨rfl,rfl,rfl⟩:=hv
       cases pin with
       | succ=>simp at ht
       | zero =>
         simp only[zS,zP] at ht
         obtain ⟨rfl,rfl,rfl,rfl⟩:=ht
         rw[hg] at hs
         obtain ⟨vs9,q1,q2,-⟩:=hs
         obtain rfl:=Aa q1
         obtain ⟨vs,f1,hR,hs1,hs2,hl,hfc⟩:=Py (P:=C.P) q2
         rw[Ay h hx]
         refine ⟨vs,f1,fp t,hR,hs1,hs2,by simp,.inr ⟨t,.gone,[],rfl,⟨fun _ _ _=>rfl,fun _ h=>h,by simp,by simpa using h.nodup t,rfl,fun _=>⟨AC.noRoot rfl,trivial⟩,?_⟩⟩,hl,hfc⟩
         rw[hg]
         have:noOwns [Pm.mv σ.g el']=false:=by simp[noOwns,Pm.noOwn]
         cases d <;>simp[A0,this]
     | view k pl=>simp[hg] at ht
     | _=>simp[hg,AV] at hv
  ·simp at ht
 ·simp at ht
end
section
variable {C:BU} {w w':World} {a a':Act} {σ:AS} {Lt Lt':Nat→Nat→Prop} {cv cv':Nat→Value} {fp fpU:Nat→Fp} {g g':Nat} {env':List (Nat × AA)} {o:Oper} {Fz:Nat→Prop}
open Classical in
theorem O1 (h:BY C w a σ Lt cv fp) {us us':List (Nat × AA)} {f f':Fp} (h1:HQ C w σ Lt cv fp us f) (h2:HQ C w σ Lt cv fp us' f') (hn:((us++us').map (·.1)).Nodup) :
  ∃ ft fr:Nat→Fp,(∀ k t,(k,t)∈us++us'→FA C w σ Lt cv fp (ft k) k t (fr k))∧(∀ x∈f++f',∃ k∈(us++us').map (·.1),x∈ft k)∧((f++f').map Fe.b).Nodup∧(∀ x∈f,∃ k∈us.map (·.1),x∈ft k):=by
 have hnd:∀ {f:Fp} {k s fr},FA C w σ Lt cv fp f k s fr→(f.map Fe.b).Nodup:=by
  intro f k s fr hl
  have:=hl.nodup
  rw[map_append,nodup_append] at this
  exact this.1
 rcases h1 with ⟨rfl,rfl⟩ | ⟨k,s,fr,rfl,hl⟩
 ·rcases h2 with ⟨rfl,rfl⟩ | ⟨k',s',fr',rfl,hl'⟩
  ·exact ⟨fun _=>[],fun _=>[],by simp,by simp,by simp,by simp⟩
  ·refine ⟨fun _=>f',fun _=>fr',fun k t hm => ?_,fun x hx=>⟨k',by simp,by simpa using hx⟩,by simpa using hnd hl',by simp⟩
   simp only[nil_append,mem_singleton,zP] at hm
   obtain ⟨rfl,rfl⟩:=hm
   exact hl'
 ·rcases h2 with ⟨rfl,rfl⟩ | ⟨k',s',fr',rfl,hl'⟩
  ·refine ⟨fun _=>f,fun _=>fr,fun k2 t hm => ?_,fun x hx=>⟨k,by simp,by simpa using hx⟩,by simpa using hnd hl,fun x hx=>⟨k,by simp,hx⟩⟩
   simp only[append_nil,mem_singleton,zP] at hm
   obtain ⟨rfl,rfl⟩:=hm
   exact hl
  ·have hkk:k≠k' :=by simpa using hn
   refine ⟨fun j=>if j=k then f else f',fun j=>if j=k then fr else fr',fun k2 t hm => ?_,fun x hx => ?_,?_,fun x hx=>⟨k,by simp,by simpa using hx⟩⟩
   ·rcases I6 hm with ⟨rfl,rfl⟩ | ⟨rfl,rfl⟩
    ·simpa using hl
    ·simpa [hkk.symm] using hl'
   ·rcases mem_append.1 hx with hx | hx
    ·exact ⟨k,by simp,by simpa using hx⟩
    ·exact ⟨k',by simp,by simpa [hkk.symm] using hx⟩
   ·rw[map_append,nodup_append]
    refine ⟨hnd hl,hnd hl',fun a ha b hb e => ?_⟩
    obtain ⟨x,hx,rfl⟩:=mem_map.1 ha
    obtain ⟨y,hy,rfl⟩:=mem_map.1 hb
    exact h.disj k k' hkk x (hl.took x hx) y (hl'.took y hy) e
theorem PY {n:Nat} {el:List Pm} (h:Al g el=true):Al g (rep n el)=true:=by
 induction n with
 | zero=>simp[rep,Al]
 | succ n ih=>rw[Ba,Ma,h,ih];rfl
theorem Ka {P:Program} {t1 t2 ty e:TypeId} {i:TypeInfo} (ht:P.underlying t1=some (.slice e)) (ht2:P.underlying t2=some .string∨∃ e,P.underlying t2=some (.slice e)) (hi:P.info? e=some i)
  {b off n cap m:Nat} {x:Value} {vs:List Value} {row:Array Value} {ety:TypeId} {fr:Nat × Nat} (hb:w.heap[b]?=some (.cells row ety fr))
  (hlen:∀ w1,(Builtin.lenOf x).run P w1 = .ok m w1) (hnew:(Builtin.firstCells i.size m x).run P w = .ok vs.toArray w) (hle:n+m≤cap)
  (hsz:off+n * i.size+vs.length≤row.size) (hf:∀ j,off+n * i.size≤j→j<off+n * i.size+vs.length→¬ (fr.1≤j∧j<fr.2)) (h1:∀ v∈vs,v.oneCell'=true) :
  (Builtin.append_ #[t1,t2] ty #[.slice (some ⟨b,off,none⟩) n cap,x]).run P w = .ok (.slice (some ⟨b,off,none⟩) (n+m) cap) (H9 w b (off+n * i.size) vs):=by
 have hs:=Do (P:=P) vs w b (off+n * i.size) 0 row ety fr hb (by omega) (fun j a c=>hf j (by omega) (by omega)) h1
 simp only[Nat.add_zero] at hs
 rcases ht2 with hu | ⟨e',hu⟩ <;>simp[Builtin.append_,run_underlying ht,run_underlying hu,sizeOf,typeInfo,hi,hlen,hle,hnew,Addr.add_lit,hs]
theorem I2 {P:Program} {t1 t2 ty e:TypeId} {i:TypeInfo} (ht:P.underlying t1=some (.slice e)) (ht2:P.underlying t2=some .string∨∃ e,P.underlying t2=some (.slice e)) (hi:P.info? e=some i)
  {x:Value} {vs:Array Value} (hlen:∀ w1,(Builtin.lenOf x).run P w1 = .ok 0 w1) (hnew:(Builtin.firstCells i.size 0 x).run P w = .ok vs w) :
  (Builtin.append_ #[t1,t2] ty #[.slice none 0 0,x]).run P w = .ok (.slice none 0 0) w:=by
 rcases ht2 with hu | ⟨e',hu⟩ <;>simp[Builtin.append_,run_underlying ht,run_underlying hu,sizeOf,typeInfo,hi,hlen,hnew]
theorem H2 {P:Program} {t1 t2 ty e:TypeId} {i:TypeInfo} {z:Value} (ht:P.underlying t1=some (.slice e)) (ht2:P.underlying t2=some .string∨∃ e,P.underlying t2=some (.slice e)) (hi:P.info? e=some i) (hz:i.zero=some z)
  {base:Option Addr} {n cap m:Nat} {x:Value} {olds vs:Array Value}
  (hlen:∀ w1,(Builtin.lenOf x).run P w1 = .ok m w1) (hold:∀ w1:World,w1.heap=w.heap→(Builtin.firstCells i.size n (.slice base n cap)).run P w1 = .ok olds w1) (hnew:∀ w1:World,w1.heap=w.heap→(Builtin.firstCells i.size m x).run P w1 = .ok vs w1) (hlt:cap<n+m)
  (hlim:n+m≤Q3) (hbytes:i.bytes≤1024) :
  (Builtin.append_ #[t1,t2] ty #[.slice base n cap,x]).run P w = .ok (.slice (some ⟨w.heap.size,0,none⟩) (n+m) (grownCap w (n+m) cap e))
    (w.drew.alloc (.cells (olds++vs++Builtin.zeroCells z.cells (grownCap w (n+m) cap e - (n+m))) e)):=by
 have h1:¬ (n+m≤cap):=by omega
 unfold Q3 at hlim
 have h63:¬ (9223372036854775807<((n:Int)+(m:Int))):=by omega
 have hcap:Builtin.nextslicecap (n+m) cap≤2 * (n+m):=nextslicecap_le hlt
 have h48:¬ (281474976710656<Builtin.nextslicecap (n+m) cap * i.bytes):=by
  have:=Nat.mul_le_mul (Nat.le_trans hcap (Nat.mul_le_mul_left 2 hlim)) hbytes
  omega
 have ho:=hold w.drew rfl
 have hn:=hnew w.drew rfl
 rcases ht2 with hu | ⟨e',hu⟩ <;>simp[Builtin.append_,run_underlying ht,run_underlying hu,sizeOf,typeInfo,zeroValue,hi,hz,hlen,h1,h63,h48,Question.forced,ho,hn,newRow,grownCap]
theorem R.refit {w:World} {Fz:Nat→Prop} {Lt:Nat→Nat→Prop} {g n:Nat} {el el':List Pm} {cs:List T} {vs:List Value} {f:Fp} (h:R w Fz Lt g [.sl .own el] [.lst n cs] vs f) (hf:Oc n el el'=true):R w Fz Lt g [.sl .own el'] [.lst n cs] vs f:=by
 unfold Oc at hf
 simp only[Bool.or_eq_true,zB] at hf
 rcases hf with h1 | ⟨h1,h2⟩
 ·obtain rfl:=pbeqs_eq h1;exact h
 ·have h1:=Nat.eq_of_beq_eq_true h1
  have h2:=Nat.eq_of_beq_eq_true h2
  subst h1
  cases h with
  | slE hq r=>exact .slE hq r
  | slO h0 hb hz hl hn hs hr hfr hi r =>
    have hi' :=hi
    simp only[rep,List.replicate_zero,List.flatten_nil] at hi'
    rw[h2] at h0 hl hs hr
    have:=R.slO (el:=el') h0 hb hz hl hn hs hr hfr (by simpa [rep] using hi') r
    rw[h2]
    exact this
theorem JR (H:DT C o w a σ Lt cv fp) (hL:∀ b j,G1 fp b j→Lt b j) {S X:Operand} {t1 t2 ty:TypeId} (hS:AT S) (hX:AT X) (hna:AH o.op=false)
  (hex:∀ v w',(Builtin.append_ #[t1,t2] ty #[a.eval S,a.eval X]).run C.P w = .ok v w'→(execOp a.eval o).run C.P w = .ok (.value v) w')
  {out:A9} (h:Eh C.E σ.g o t1 t2 (AB σ.env S) (AB σ.env X)=some out) (hfr:Av o σ out.ups) :
  out.g=none∧AN C o a w ⟨Ae out.ups σ.env,σ.g⟩:=by
 have hst:=H.st
 unfold Eh at h
 split at h
 ·rename_i d hd
  split at h
  ·rename_i e hk
   split at h
   ·simp at h
   rename_i de hde
   split at h
   ·simp at h
   rename_i n cs el0 us hto
   split at h
   ·simp at h
   rename_i m cs' el us' hap
   split at h
   ·rename_i hc
    simp only[zB,Nat.ble_eq,beq_iff_eq] at hc
    obtain ⟨⟨⟨⟨⟨c1,c2⟩,c3⟩,c4⟩,c5⟩,c6⟩:=hc
    simp only[zS] at h
    subst h
    have hT:=H.ty e de hde
    obtain ⟨i,z,g1,g2,g3,g4,-⟩:=hT.info
    obtain ⟨u,hu,hkd,-⟩:=(H.ty t1 d hd).und
    unfold FS at hkd
    rw[hk] at hkd
    have hu':C.P.underlying t1=some (.slice e):=by rw[hu,hkd.1]
    have hpl:0<el.length:=by rw[c6];exact hT.pos
    have hsz:i.size=el.length:=by rw[g2,c6]
    obtain ⟨fs,hRs0,hts⟩:=JQ hst hS hto
    have hRs:=hRs0.refit c1
    obtain ⟨ht2,vs,fx,ftx,hRx,hx1,hx2,hx3,htx,hlen,hcells⟩:=KE hst hL H.ty hX hap
    have hnd:=Az c3
    obtain ⟨ft,fr,i1,i2,i3,i4⟩:=O1 hst hts htx hnd
    have hvl:vs.length=m * el.length:=by rw[hRx.length_eq.2,A6]
    have hone:=hRx.oneCells (PY c2)
    refine ⟨rfl,?_⟩
    have hxs:∀ x∈fs,∀ y∈fx,x.b≠y.b:=by
     intro x hx y hy
     rw[map_append,nodup_append] at i3
     exact i3.2.2 _ (mem_map.2 ⟨x,hx,rfl⟩) _ (mem_map.2 ⟨y,hx1 y hy,rfl⟩)
    have hfxn:(fx.map Fe.b).Nodup:=by
     rw[map_append,nodup_append] at i3
     exact hx2 i3.2.1
    have hfsn:(fs.map Fe.b).Nodup:=by
     rw[map_append,nodup_append] at i3
     exact i3.1
    have hinft:∀ x,x∈fs∨x∈fx→∃ k∈(us++us').map (·.1),x∈ft k:=by
     rintro x (h | h)
     ·exact i2 x (mem_append_left _ h)
     ·exact i2 x (mem_append_right _ (hx1 x h))
    obtain ⟨olds,f1,hRo,ho1,ho2,ho3,ho4⟩:=D8 (P:=C.P) hRs (by rfl)
    have hfn:((f1++fx).map Fe.b).Nodup:=by
     rw[map_append,nodup_append]
     refine ⟨ho2 hfsn,hfxn,fun a ha b hb e => ?_⟩
     obtain ⟨x,hx,rfl⟩:=mem_map.1 ha
     obtain ⟨y,hy,rfl⟩:=mem_map.1 hb
     exact hxs x (ho1 x hx) y hy e
    have hRapp:=hRo.append hRx
    rw[← Eu] at hRapp
    obtain ⟨⟨ad,cap,hva⟩,hrow⟩:=GD hRs (by rfl)
    have hgrow:cap<n+m→AN C o a w ⟨Ae (AL o (.val false [.sl .own el] [.lst (n+m) (cs++cs')] [] 0)++(us++us')) σ.env,σ.g⟩:=by
     intro hlt
     have hrun:=hex _ _ (by
      rw[hva]
      refine H2 (olds:=olds.toArray) (vs:=vs.toArray) hu' ht2 g1 g4 hlen (fun w1 hw1 => ?_) (fun w1 hw1=>by rw[hsz];exact hcells w1 hw1) hlt c4 (by rw[g3];exact c5)
      rw[hsz,← hva];exact ho4 w1 hw1)
     have hx0:Ab w w.drew (fun _ _=>False):=(Ab.refl w _).drew
     have hst1:BY C w.drew a σ Lt cv fp:=hst.quiet hx0
     have hcapge:n+m≤grownCap w (n+m) cap e:=by
      unfold grownCap;simp only[Question.cut];omega
     generalize hgc:grownCap w (n+m) cap e=gc at hrun hcapge
     have hzs:z.cells.size=de.sz:=by
      obtain ⟨i',z',q1,q2,q3,q4,q5,q6⟩:=hT.info
      rw[g1] at q1
      obtain rfl:=Option.some.inj q1
      rw[g4] at q4
      obtain rfl:=Option.some.inj q4
      have:=(A2 (w:=w) (Fz:=fun _=>False) (Lt:=fun _ _=>False) (g:=0) q5 hT.fit).length_eq
      have:=hT.len
      simp at *;omega
     generalize hrest:Builtin.zeroCells z.cells (gc - (n+m))=rest at hrun
     have hrs:rest.size=(gc - (n+m)) * el.length:=by rw[← hrest];simp[Builtin.zeroCells,hzs,c6]
     have hxa:Ab w.drew (w.drew.alloc (.cells (olds.toArray++vs.toArray++rest) e)) (fun _ _=>False):=Ab.alloc w.drew _ _
     have hxt:Ab w (w.drew.alloc (.cells (olds.toArray++vs.toArray++rest) e)) (fun _ _=>False):=hx0.trans hxa (fun _ _ h=>h) (fun _ _ _ h=>h)
     have hol:olds.length=n * el.length:=by rw[hRo.length_eq.2,A6]
     have hmul:(n+m) * el.length+(gc - (n+m)) * el.length=gc * el.length:=by rw[← Nat.add_mul];congr 1;omega
     have hmul2:(n+m) * el.length=n * el.length+m * el.length:=Nat.add_mul _ _ _
     have hB:=R.slO (ps:=[]) (ts:=[]) (vs:=[]) (fp₂:=[]) (b:=w.heap.size) (off:=0) (n:=n+m) (cap:=gc) (el:=el) hpl (GC (w:=w.drew) (.cells (olds.toArray++vs.toArray++rest) e)) (G3 hst) (fun j _=>Gv hst j) hcapge
      (vs' :=olds++vs) (by
        have hl:(olds++vs).length=(n+m) * el.length:=by simp[hol,hvl,hmul2]
        simp only[seg,drop_zero,Array.toList_append,List.toList_toArray]
        rw[← hl,List.take_append_of_le_length (Nat.le_refl _),take_length])
      (by simp[hol,hvl,hrs];omega) (by simp)
      (hRapp.mono hxt (fun _ h=>h) (fun _ _ h=>h) (by simp) (by simp) (fun x hx'=>⟨by simp,(hRapp.lt x hx').2.2.2,hRapp.noLtAbove x hx'⟩)) (R.nil (g:=σ.g))
     have:=AN.madeW (W:=fun _ _=>False) (us:=us++us') (ft:=ft) (fr:=fr) H hxt (by simp) (by simp) (by simp) (by simp) hrun hna (s:=.val false [.sl .own el] [.lst (n+m) (cs++cs')] [] 0)
      (fun cv' env' d' hc'=>⟨[_],by simp[AD,hc'],hB,by simp⟩) (by simp[AA.root]) rfl hfr hnd i1
      (by
        simp only[append_nil,cons_append,map_cons,nodup_cons]
        refine ⟨fun hm => ?_,hfn⟩
        obtain ⟨x,hx',e1⟩:=mem_map.1 hm
        have:x∈fs∨x∈fx:=(mem_append.1 hx').imp (ho1 x) id
        obtain ⟨k,hk1,hk2⟩:=hinft x this
        obtain ⟨⟨k,t⟩,hm1,rfl⟩:=mem_map.1 hk1
        exact MP hst ((i1 k t hm1).took x hk2) e1)
      (fun x hx'=>by
        simp only[append_nil,cons_append,mem_cons] at hx'
        rcases hx' with rfl | hx'
        ·exact .inl (Nat.le_refl _)
        ·obtain ⟨k,hk1,hk2⟩:=hinft x ((mem_append.1 hx').imp (ho1 x) id)
         exact .inr ⟨k,hk1,x,hk2,rfl,Nat.le_refl _,Nat.le_refl _⟩)
     exact this
    by_cases hlt:cap<n+m
    ·exact hgrow hlt
    ·rcases hrow with ⟨ad',cap',hv',hn0,hcs0,hfs0,hne⟩ | ⟨b,off,cap',row,ety,fr0,hv',h0,hb,hncap,hsz0,f2,hR2,hsub2,hown⟩
     ·
      obtain ⟨rfl,rfl⟩:=hne rfl
      rw[hva] at hv'
      obtain ⟨rfl,-,rfl⟩:ad=none∧n=0∧cap=0:=by simpa using hv'
      have hm0:m=0:=by omega
      subst hn0 hm0 hcs0 hfs0
      have hcs2:cs'=[]:=by
       have:=hRx.length_eq.1
       simp[rep] at this;exact this
      subst hcs2
      have hfx0:fx=[]:=by
       have hR' :=hRx
       simp only[rep,List.replicate_zero,List.flatten_nil] at hR'
       cases hR';rfl
      have hrun:=hex _ _ (by rw[hva];exact I2 hu' ht2 g1 hlen (hcells w rfl |> fun h=>by rw[hsz];exact h))
      have:=AN.madeW (W:=fun _ _=>False) (us:=us++us') (ft:=ft) (fr:=fr) (f:=[]) H (Ab.refl w _) (by simp) (by simp) (by simp) (by simp) hrun hna (s:=.val false [.sl .own el] [.lst (0+0) ([]++[])] [] 0)
       (fun cv' env' d' hc'=>⟨[_],by simp[AD,hc'],.slE (fun _=>⟨rfl,rfl⟩) .nil,by simp⟩) (by simp[AA.root]) rfl hfr hnd i1 (by simp) (by simp)
      exact this
     ·
      rcases hown with ⟨hno,-⟩ | ⟨-,hFz,hLt0,hcapsz,hfree,hfse⟩
      ·exact absurd rfl hno
      rw[hva] at hv'
      obtain ⟨rfl,rfl⟩:ad=some ⟨b,off,none⟩∧cap=cap' :=by simpa using hv'
      have hmul2:(n+m) * el.length=n * el.length+m * el.length:=Nat.add_mul _ _ _
      have hcm:(n+m) * el.length≤cap * el.length:=Nat.mul_le_mul_right _ (by omega)
      have hfree':∀ j,off+n * el.length≤j→j<off+n * el.length+m * el.length→¬ (fr0.1≤j∧j<fr0.2):=fun j a c=>by
       have hc0:0<cap:=by
        rcases Nat.eq_zero_or_pos cap with h0 | h0
        ·have hm0:m=0:=by omega
         rw[hm0] at c
         simp at c
         omega
        ·exact h0
       exact hfree hc0 j (by omega)
      have hrun:=hex _ _ (by
       rw[hva]
       exact Ka (vs:=vs) hu' ht2 g1 hb hlen (by rw[hsz];exact hcells w rfl) (by omega) (by rw[hsz,hvl];omega) (by rw[hsz,hvl];exact hfree') hone)
      rw[hsz] at hrun
      have hxw:=J7 vs w b (off+n * el.length)
      obtain ⟨row',r1,r2,r3,r4⟩:=F9 vs w b (off+n * el.length) row ety fr0 hb (by omega)
      have hFe:(⟨b,off,off+n * el.length,off+n * el.length,off+cap * el.length⟩:Fe)∈fs:=by rw[hfse];simp
      obtain ⟨kb,hkb,hkb2⟩:=i4 _ hFe
      obtain ⟨⟨kb,sb⟩,hmb,rfl⟩:=mem_map.1 hkb
      have hlb:=i1 kb sb (mem_append_left _ hmb)
      simp only at hkb hkb2
      have hFek:=hlb.took _ hkb2
      have hbf2:∀ x∈f2++fx,x.b≠b:=by
       intro x hx' e1
       rcases mem_append.1 hx' with h | h
       ·rw[hfse] at hfsn
        simp only[map_cons,nodup_cons] at hfsn
        exact hfsn.1 (mem_map.2 ⟨x,h,e1⟩)
       ·exact hxs _ hFe x h e1.symm
      have hR2app:=hR2.append hRx
      rw[← Eu] at hR2app
      have hseg:=HU (row:=row) (row' :=row') (off:=off) (c:=n * el.length) (N:=(n+m) * el.length) (vs:=vs) (by omega) (by omega) r2 r3 r4
      have hseg2:seg row' off ((n+m) * el.length)=seg row off (n * el.length)++vs:=by
       rw[hseg]
       have e1:(seg row off ((n+m) * el.length)).take (n * el.length)=seg row off (n * el.length):=by
        have:=Bf (row:=row) (o:=off) (n:=(n+m) * el.length) (i:=0) (m:=n * el.length) (by omega)
        simpa using this
       have e2:(seg row off ((n+m) * el.length)).drop (n * el.length+vs.length)=[]:=by
        rw[drop_eq_nil_of_le];rw[Jv (by omega)];omega
       rw[e1,e2,append_nil]
      have wF:∀ b' j,C.Fz b'→¬ (b'=b∧off+n * el.length≤j∧j<off+n * el.length+vs.length):=fun b' j h1 h2=>hFz (h2.1 ▸ h1)
      have wL:∀ b' j,Lt b' j→¬ (b'=b∧off+n * el.length≤j∧j<off+n * el.length+vs.length):=fun b' j h1 h2=>hLt0 j h2.2.1 (h2.1 ▸ h1)
      have hRn:=hR2app.turn hxw wF (.inl ⟨rfl,rfl,wL⟩) (fun x hx' j _ _ h2=>hbf2 x hx' h2.1)
      have hB:=R.slO (ps:=[]) (ts:=[]) (vs:=[]) (fp₂:=[]) (b:=b) (off:=off) (n:=n+m) (cap:=cap) (el:=el) hpl r1 hFz (fun j hj=>hLt0 j (by omega)) (by omega) hseg2 (by rw[r2];exact hcapsz) hfree hRn (R.nil (g:=σ.g))
      have hfn2:((f2++fx).map Fe.b).Nodup:=by
       rw[map_append,nodup_append]
       refine ⟨?_,hfxn,fun a ha b hb e => ?_⟩
       ·rw[hfse] at hfsn;simp only[map_cons,nodup_cons] at hfsn;exact hfsn.2
       ·obtain ⟨x,hx,rfl⟩:=mem_map.1 ha
        obtain ⟨y,hy,rfl⟩:=mem_map.1 hb
        exact hxs x (hsub2 x hx) y hy e
      have:=AN.madeW (W:=fun b' j=>b'=b∧off+n * el.length≤j∧j<off+n * el.length+vs.length) (us:=us++us') (ft:=ft) (fr:=fr) H hxw
       (by
         rintro b' j - ⟨rfl,q1,q2⟩
         rcases hst.wok kb _ hFek with h | ⟨y,hy,e1,e2,e3⟩
         ·exact .inl h
         ·simp only at e1 e2 e3
          exact .inr ⟨y,hy,e1,by omega,by omega⟩)
       wL
       (fun k hk x hx' j h2=>hk (by
         have:=(hst.same hx' hFek h2.1).1
         rw[this];exact mem_map.2 ⟨_,mem_append_left _ hmb,rfl⟩))
       (fun k hk x hx' j h2=>by
         obtain ⟨⟨k,t⟩,hm,rfl⟩:=mem_map.1 hk
         have hl:=i1 k t hm
         simp only at hx'
         have:=(hst.same (hl.rest x hx') hFek h2.1).1
         subst this
         have hnn:=hl.nodup
         rw[map_append,nodup_append] at hnn
         exact hnn.2.2 _ (mem_map.2 ⟨_,hkb2,rfl⟩) _ (mem_map.2 ⟨x,hx',rfl⟩) h2.1.symm)
       hrun hna (s:=.val false [.sl .own el] [.lst (n+m) (cs++cs')] [] 0)
       (fun cv' env' d' hc'=>⟨[_],by simp[AD,hc'],hB,by simp⟩) (by simp[AA.root]) rfl hfr hnd i1
       (by
         simp only[append_nil,cons_append,map_cons,nodup_cons]
         refine ⟨fun hm => ?_,hfn2⟩
         obtain ⟨x,hx',e1⟩:=mem_map.1 hm
         exact hbf2 x hx' e1)
       (fun x hx'=>by
         simp only[append_nil,cons_append,mem_cons] at hx'
         rcases hx' with rfl | hx'
         ·exact .inr ⟨kb,mem_map.2 ⟨_,mem_append_left _ hmb,rfl⟩,_,hkb2,rfl,Nat.le_refl _,Nat.le_refl _⟩
         ·obtain ⟨k,hk1,hk2⟩:=hinft x ((mem_append.1 hx').imp (hsub2 x) id)
          exact .inr ⟨k,hk1,x,hk2,rfl,Nat.le_refl _,Nat.le_refl _⟩)
      exact this
   ·simp at h
  ·simp at h
 ·simp at h
theorem KV (H:DT C o w a σ Lt cv fp) {S X:Operand} {t1 t2 ty:TypeId} (hS:AT S) (hX:AT X) (hna:AH o.op=false)
  (hex:∀ v w',(Builtin.append_ #[t1,t2] ty #[a.eval S,a.eval X]).run C.P w = .ok v w'→(execOp a.eval o).run C.P w = .ok (.value v) w')
  {out:A9} (h:Eh C.E σ.g o t1 t2 (AB σ.env S) (AB σ.env X)=some out) (hfr:Av o σ out.ups) :
  out.g=none∧AN C o a w ⟨Ae out.ups σ.env,σ.g⟩:=JR H.lendAll (fun _ _ h => .inr h) hS hX hna hex h hfr
end
theorem Cu:∀ {a b:List Pm},Ap (a++b)=(Ap a&&Ap b)
 | [],b=>by simp[Ap]
 | .leaf::ps,b=>by simp only[cons_append,Ap];exact Cu
 | .sl .own _::ps,b=>by simp only[cons_append,Ap];exact Cu
 | .sl .shr _::ps,b=>by simp only[cons_append,Ap];exact Cu
 | .sl (.lent _) _::ps,b=>by simp[Ap]
 | .dead::ps,b=>by simp[Ap]
 | .rf _ _::ps,b=>by simp[Ap]
 | .fn _::ps,b=>by simp[Ap]
 | .mv _ _::ps,b=>by simp[Ap]
 | .bld _ _::ps,b=>by simp[Ap]
theorem OK {n:Nat} {el:List Pm} (h:Ap el=true):Ap (rep n el)=true:=by
 induction n with
 | zero=>rfl
 | succ n ih=>rw[Ba,Cu,h,ih];rfl
theorem R.holesC {w:World} {Fz:Nat→Prop} {Lt:Nat→Nat→Prop} {g:Nat}:∀ {ps:List Pm} {ts:List T} {vs:List Value} {f:Fp},R w Fz Lt g ps ts vs f→Ap ps=true→R w Fz Lt g ps (Ml ps ts) vs []
 | [],_,_,_,h,_=>by cases h;exact .nil
 | .leaf::ps,t::ts,_,_,h,hh=>by
   cases h with
   | leaf h1 h2=>exact .leaf h1 (h2.holesC hh)
 | .sl .shr el::ps,t::ts,_,_,h,hh=>by
   cases h with
   | slE h1 h2=>exact .slE h1 (h2.holesC hh)
   | slS h0 hb hz hn hs hr' hi h2=>exact .slS h0 hb hz hn hs hr' hi (h2.holesC hh)
   | slH h2=>exact .slH (h2.holesC hh)
 | .sl .own el::ps,t::ts,_,_,h,hh=>by
   cases h with
   | slE h1 h2=>exact .slH (h2.holesC hh)
   | slO h0 hb hz hl hn hs hr' hf hi h2=>exact .slH (h2.holesC hh)
   | slH h2=>exact .slH (h2.holesC hh)
 | .dead::ps,_,_,_,_,hh=>by simp[Ap] at hh
 | .sl (.lent _) _::ps,_,_,_,_,hh=>by simp[Ap] at hh
 | .rf _ _::ps,_,_,_,_,hh=>by simp[Ap] at hh
 | .fn _::ps,_,_,_,_,hh=>by simp[Ap] at hh
 | .mv _ _::ps,_,_,_,_,hh=>by simp[Ap] at hh
 | .bld _ _::ps,_,_,_,_,hh=>by simp[Ap] at hh
theorem R.holeRange {w:World} {Fz:Nat→Prop} {Lt:Nat→Nat→Prop} {g n l m:Nat} {el:List Pm} {cs:List T} {rv:List Value} {f:Fp} (h:R w Fz Lt g (rep n el) cs rv f) (hok:Ap el=true) (hlm:l+m≤n) :
  ∃ f1 fm f2,f=f1++(fm++f2)∧R w Fz Lt g (rep m el) ((cs.drop (l * el.length)).take (m * el.length)) ((rv.drop (l * el.length)).take (m * el.length)) fm ∧
   R w Fz Lt g (rep n el) (DY el l m cs) rv (f1++f2):=by
 obtain ⟨f1,fm,f2,rfl,ha,hb,hd⟩:=h.range (l * el.length) (m * el.length)
 have hr:((rep n el).drop (l * el.length)).take (m * el.length)=rep m el:=K1 (by omega)
 rw[hr] at hb
 refine ⟨f1,fm,f2,rfl,hb,?_⟩
 have hH:=hb.holesC (OK hok)
 have:=ha.append (hH.append hd)
 rw[nil_append] at this
 rw[KO (rep n el) (l * el.length) (m * el.length),hr,KO rv (l * el.length) (m * el.length)]
 exact this
section
variable {C:BU} {w w':World} {a a':Act} {σ:AS} {Lt Lt':Nat→Nat→Prop} {cv cv':Nat→Value} {fp fpU:Nat→Fp} {g g':Nat} {env':List (Nat × AA)} {o:Oper} {Fz:Nat→Prop}
theorem PK (h:BY C w a σ Lt cv fp) {t k n l m:Nat} {pl:AO} {p el:List Pm} {cs cs0:List T} {d:CE} {ag:Bool} (hg:AE σ.env t = .view k pl) (hpath:pl.path=[]) (hroot:(AE σ.env k).root=some (p,cs,d))
  (hst:¬ CY d pl=true) (hv:atPlace p cs pl=some ⟨ag,[.sl .own el],[.lst n cs0]⟩) (hok:Ap el=true) (hlm:l+m≤n) :
  ∃ x f fr,AD ag (cv t) [x]∧FA C w σ Lt cv fp f k ((AE σ.env k).withRoot p (Aj cs (ix p.length pl.e pl.c) [.lst n (DY el l m cs0)]) (([pl.c],0,el.length)::d)) fr ∧
   ((n=0∧f=[]∧x = .slice none 0 0)∨∃ b off cap row e fr',x = .slice (some ⟨b,off,none⟩) n cap∧0<el.length∧w.heap[b]?=some (.cells row e fr')∧n≤cap∧off+cap * el.length≤row.size ∧
     R w C.Fz Lt σ.g (rep m el) ((cs0.drop (l * el.length)).take (m * el.length)) (seg row (off+l * el.length) (m * el.length)) f∧(⟨b,off,off+n * el.length,off+n * el.length,off+cap * el.length⟩:Fe)∈fp k):=by
 have hlk:=h.looks t k (by rw[hg];simp[AA.looks])
 have hs:=h.slots t
 rw[hg] at hs
 obtain ⟨el1,rcs,a1,a2,a3,a4⟩:=Ac hv
 rw[hpath] at a1
 simp only[rowAt,zS,zP] at a1
 obtain ⟨rfl,rfl⟩:=a1
 obtain ⟨vs0,base0,fI,hrv,hR,hsub,hk⟩:=(h.slots k).rootR hroot
 have hn1:pl.n=1:=by have:=(An a2).2.1;simpa using this.symm
 have hpos:0<pl.n:=by omega
 obtain ⟨vs1,base1,el2,rv,base,k1,k2,k3,-⟩:=hs.2 p cs d hroot (by simpa using hst)
 obtain ⟨rfl,rfl⟩:=hrv.uniq k1
 rw[hpath] at k2
 simp only[A8,zS,zP] at k2
 obtain ⟨rfl,rfl,rfl⟩:=k2
 have hpc:p[pl.c]?=some (.sl .own el):=by
  have a2' :=a2
  rw[hn1] at a2'
  simp only[BO] at a2'
  split at a2'
  ·cases a2'
  ·rename_i q hq
   simp only[zS,List.cons.injEq,and_true] at a2'
   rw[hq,a2']
 have hcc:cs[ix p.length pl.e pl.c]?=some (.lst n cs0):=by
  have a3' :=a3
  rw[hn1] at a3'
  simp only[CG] at a3'
  split at a3'
  ·cases a3'
  ·rename_i q hq
   simp only[zS,List.cons.injEq,and_true] at a3'
   rw[hq,a3']
 have hrs:∀ X,Aj cs (ix p.length pl.e pl.c) [.lst n X]=Ah p cs [(pl.e,pl.c)] (fun _=>X):=fun X=>by
  simp only[Ah,hpc,hcc,Aj]
 have hR0:=hR
 rw[← BI p] at hR0
 obtain ⟨f1,f,f2,rfl,hlen,hR1,hset⟩:=hR0.resub a2 a3 hpos
 rw[hn1] at hR1
 have hvl:vs0.length=p.length:=hR.length_eq.2
 rw[Nat.one_mul] at hlen
 obtain ⟨x,hx⟩:∃ x,(vs0.drop (ix p.length pl.e pl.c)).take 1=[x]:=by
  have hl1:((vs0.drop (ix p.length pl.e pl.c)).take 1).length=1:=by rw[length_take,List.length_drop];omega
  exact length_eq_one_iff.1 hl1
 rw[hx] at hR1
 have hcx:AD ag (cv t) [x]:=by
  simp only[Desk.pick,hn1,hx] at k3
  rw[show ag=pl.agg from a4]
  exact k3
 have hnI:((f1++(f++f2)).map Fe.b).Nodup:=by
  rcases hk with ⟨_,_,_,_,e⟩ | ⟨_,_,_,_,_,_,_,_,_,_,_,_,e,_⟩
  ·rw[e];exact h.nodup k
  ·have:=h.nodup k;rw[e] at this;simp only[map_cons,nodup_cons] at this;exact this.2
 obtain ⟨fm,fk,hperm,hnewL,hdone⟩:∃ fm fk,f.Perm (fm++fk)∧R w C.Fz Lt σ.g [.sl .own el] [.lst n (DY el l m cs0)] [x] fk ∧
   ((n=0∧fm=[]∧x = .slice none 0 0)∨∃ b off cap row e fr',x = .slice (some ⟨b,off,none⟩) n cap∧0<el.length∧w.heap[b]?=some (.cells row e fr')∧n≤cap∧off+cap * el.length≤row.size ∧
     R w C.Fz Lt σ.g (rep m el) ((cs0.drop (l * el.length)).take (m * el.length)) (seg row (off+l * el.length) (m * el.length)) fm∧(⟨b,off,off+n * el.length,off+n * el.length,off+cap * el.length⟩:Fe)∈f):=by
  cases hR1 with
  | slE hq r =>
    cases r
    obtain ⟨rfl,rfl⟩:=hq rfl
    obtain ⟨rfl,rfl⟩:l=0∧m=0:=by omega
    exact ⟨[],[],by simp,by simpa [DY,rep,Ml] using R.slE (fun _=>⟨rfl,rfl⟩) .nil,.inl ⟨rfl,rfl,rfl⟩⟩
  | @slO b off _ cap row ety fr _ _ vs' _ _ _ fp₁ fp₂ h0 hb hFz hLt hcap hseg hsz hfree hi r =>
    cases r
    obtain ⟨g1,gm,g2,rfl,hm,hH⟩:=hi.holeRange hok hlm
    refine ⟨gm,⟨b,off,off+n * el.length,off+n * el.length,off+cap * el.length⟩::(g1++g2)++[],?_,.slO h0 hb hFz hLt hcap hseg hsz hfree hH .nil,.inr ⟨b,off,cap,row,ety,fr,rfl,h0,hb,hcap,hsz,?_,by simp⟩⟩
    ·rw[perm_iff_count];intro z;simp only[count_append,List.count_cons,append_nil,cons_append];omega
    ·rw[← hseg,Bf (by rw[← Nat.add_mul];exact Nat.mul_le_mul_right _ hlm)] at hm
     exact hm
 have hnew:=hset w (fun _ _=>False) _ _ _ (Ab.refl _ _) (by simp) (by simp) (by simp) hnewL
 rw[BI,← hx,hn1,← KO] at hnew
 have hpN:(f1++(f++f2)).Perm (fm++(f1++(fk++f2))):=by
  rw[perm_iff_count]
  intro z
  have:=perm_iff_count.1 hperm z
  simp only[count_append] at this ⊢
  omega
 have hmem:∀ y,y∈fm++(f1++(fk++f2))→y∈f1++(f++f2):=fun y hy=>hpN.mem_iff.2 hy
 have hnf:((fm++(f1++(fk++f2))).map Fe.b).Nodup:=(hpN.map Fe.b).nodup_iff.1 hnI
 have hkeep:AI (AE σ.env k)→AC w w (cv k) (AE σ.env k) (cv k) ((AE σ.env k).withRoot p (Aj cs (ix p.length pl.e pl.c) [.lst n (DY el l m cs0)]) (([pl.c],0,el.length)::d))∧AI ((AE σ.env k).withRoot p (Aj cs (ix p.length pl.e pl.c) [.lst n (DY el l m cs0)]) (([pl.c],0,el.length)::d)):=by
  intro _
  refine ⟨AC.turned hroot rfl (fun _ vs2 base2 hr2 => ?_) (fun vs2 base2 hr2=>⟨vs2,?_⟩) (fun _=>⟨rfl,⟨fun _ _=>False,Ab.refl _ _⟩,fun e c hec => ?_⟩),?_⟩
  ·cases hgk:AE σ.env k with
   | val ag2 p2 cs2 d2 pin2=>rw[hgk] at hr2;exact hr2
   | box p2 cs2 d2 pin2 =>
     rw[hgk] at hr2 hroot
     simp only[AA.root,zS,zP] at hroot
     obtain ⟨b,off,row,e,fr,q1,q2,q3,q4⟩:=hr2
     exact ⟨b,off,row,e,fr,q1,q2,by rw[← hroot.1];exact q3,q4⟩
   | _=>rw[hgk] at hroot;simp[AA.root] at hroot
  ·cases hgk:AE σ.env k with
   | val ag2 p2 cs2 d2 pin2=>rw[hgk] at hr2;exact hr2
   | box p2 cs2 d2 pin2 =>
     rw[hgk] at hr2 hroot
     simp only[AA.root,zS,zP] at hroot
     obtain ⟨b,off,row,e,fr,q1,q2,q3,q4⟩:=hr2
     exact ⟨b,off,row,e,fr,q1,q2,by rw[← hroot.1];exact q3,q4⟩
   | _=>rw[hgk] at hroot;simp[AA.root] at hroot
  ·rw[hrs];exact Cq (by simp) e c hec
  ·cases hgk:AE σ.env k with
   | val=>simp[AA.withRoot,AI]
   | box=>simp[AA.withRoot,AI]
   | _=>rw[hgk] at hroot;simp[AA.root] at hroot
 have hold:A0 (AE σ.env k)=false:=by
  cases hf:A0 (AE σ.env k) with
  | false=>rfl
  | true=>exact absurd hlk.2 (Aq hf)
 have hin:∀ b off cap,(⟨b,off,off+n * el.length,off+n * el.length,off+cap * el.length⟩:Fe)∈f→(⟨b,off,off+n * el.length,off+n * el.length,off+cap * el.length⟩:Fe)∈fp k:=fun b off cap hf=>hsub _ (by simp[hf])
 have hdone':(n=0∧fm=[]∧x = .slice none 0 0)∨∃ b off cap row e fr',x = .slice (some ⟨b,off,none⟩) n cap∧0<el.length∧w.heap[b]?=some (.cells row e fr')∧n≤cap∧off+cap * el.length≤row.size ∧
    R w C.Fz Lt σ.g (rep m el) ((cs0.drop (l * el.length)).take (m * el.length)) (seg row (off+l * el.length) (m * el.length)) fm∧(⟨b,off,off+n * el.length,off+n * el.length,off+cap * el.length⟩:Fe)∈fp k:=by
  rcases hdone with h | ⟨b,off,cap,row,e,fr',q1,q2,q3,q4,q5,q6,q7⟩
  ·exact .inl h
  ·exact .inr ⟨b,off,cap,row,e,fr',q1,q2,q3,q4,q5,q6,hin _ _ _ q7⟩
 refine ⟨x,fm,?_⟩
 rcases hk with ⟨ag,pin,hgk,rfl,e⟩ | ⟨pin,b,off,row,ety,fr,hgk,rfl,hcv,hb,hvs,hsz,e,hp0,hz,hlt0,hfree⟩
 ·refine ⟨f1++(fk++f2),hcx,⟨fun cv' env' hcv' => ?_,fun y hy=>hsub y (hmem y (by simp[hy])),fun y hy=>hsub y (hmem y (mem_append_right _ hy)),hnf,?_,hkeep,hold⟩,hdone'⟩
  ·have hsk:=h.slots k
   rw[hgk] at hsk ⊢
   rw[hgk] at hrv
   simp only[AA.withRoot]
   obtain ⟨vs9,k1',-,k3'⟩:=hsk
   obtain rfl:=hrv.1.uniq k1'
   exact ⟨vs0,by rw[hcv'];exact k1',hnew,k3'⟩
  ·rw[hgk];rfl
 ·refine ⟨⟨b,off,off+p.length,0,off+p.length⟩::(f1++(fk++f2)),hcx,⟨fun cv' env' hcv' => ?_,fun y hy=>hsub y (hmem y (by simp[hy])),fun y hy => ?_,?_,?_,hkeep,hold⟩,hdone'⟩
  ·have hsk:=h.slots k
   rw[hgk] at hsk ⊢
   simp only[AA.withRoot]
   refine ⟨?_,fun hp=>by rw[hcv'];exact hsk.2 hp⟩
   rw[hcv',hcv]
   have:=R.rfO (b:=b) (off:=off) (row:=row) (e:=ety) (fr:=fr) (el:=p) (vs' :=vs0) hp0 hb hz hlt0 hvs.symm hsz hfree hnew (R.nil (w:=w) (Fz:=C.Fz) (Lt:=Lt) (g:=σ.g))
   simpa using this
  ·rw[e]
   rcases mem_cons.1 hy with hy | hy
   ·exact mem_cons.2 (.inl hy)
   ·exact mem_cons_of_mem _ (hmem y (mem_append_right _ hy))
  ·have hall:=h.nodup k
   rw[e] at hall
   simp only[map_cons,nodup_cons] at hall
   have hp:(fm++⟨b,off,off+p.length,0,off+p.length⟩::(f1++(fk++f2))).Perm (⟨b,off,off+p.length,0,off+p.length⟩::(fm++(f1++(fk++f2)))):=perm_middle
   refine (hp.map Fe.b).nodup_iff.2 ?_
   simp only[map_cons,nodup_cons]
   refine ⟨fun hm=>hall.1 ?_,hnf⟩
   obtain ⟨z,hz,hze⟩:=mem_map.1 hm
   exact mem_map.2 ⟨z,hmem z hz,hze⟩
  ·rw[hgk];rfl
theorem Jp (H:DT C o w a σ Lt cv fp) {X:Operand} {lo hi:Option Operand} {t:TypeId} (hop:o.op = .slice t X lo hi none)
  {out:A9} (h:GJ C.E o t (AB σ.env X) (lo.map (AB σ.env)) (hi.map (AB σ.env)) 0 σ.g=some out) (hfr:Av o σ out.ups) :
  out.g=none∧AN C o a w ⟨Ae out.ups σ.env,σ.g⟩:=by
 have hX:AT X:=H.opn X (by simp[hop,Op.operands])
 have hlo:∀ y,lo=some y→AT y:=fun y hy=>H.opn y (by simp[hop,Op.operands,hy])
 have hhi:∀ y,hi=some y→AT y:=fun y hy=>H.opn y (by simp[hop,Op.operands,hy])
 have hna:AH o.op=false:=by simp[hop,AH]
 unfold GJ at h
 split at h
 case h_2=>simp at h
 rename_i el n cs hv
 split at h
 case h_2=>simp at h
 rename_i l hh hl1 hh1
 split at h
 case isFalse=>simp at h
 rename_i hc
 obtain ⟨c1,c2,c3,c4,c5⟩:=hc
 cases X with
 | const c=>simp[AB] at h
 | global=>simp[AB] at h
 | func=>simp[AB] at h
 | tmp tt =>
 have b1:=CW H.st hlo hl1
 have b2:=CW H.st hhi hh1
 obtain ⟨e,inf,t1,t2,t3⟩:=Bs H.ty c4
 rw[AJ] at h hv
 cases hg:AE σ.env tt with
 | view k pl =>
   simp only[hg] at h hv
   split at h
   case h_2=>simp at h
   rename_i hpath
   split at h
   case h_1=>simp at h
   rename_i p rcs d hroot
   simp only[zS] at h
   subst h
   simp only[AV,hroot] at hv
   split at hv
   ·simp at hv
   rename_i hst
   refine ⟨rfl,?_⟩
   have H' :=H.lendAll
   have hlm:l.toNat+(hh.toNat - l.toNat)≤n:=by omega
   obtain ⟨x,f,fr,hcx,hleft,hcase⟩:=PK H'.st hg hpath hroot hst hv c5 hlm
   have hxe:x=cv tt:=by simpa [AD] using hcx
   subst hxe
   have hev:a.eval (.tmp tt)=cv tt:=Ay H.st hX
   have hexec:∀ {ad cap},cv tt = .slice ad n cap→n≤cap→(execOp a.eval o).run C.P w = .ok (.value (.slice (if cap=l.toNat then ad else ad.map (·.add (l.toNat * el.length))) (hh.toNat - l.toNat) (cap - l.toNat))) w:=by
    intro ad cap hev' hcap
    simp only[execOp,hop]
    refine B5 ?_
    have:=DG (P:=C.P) (w:=w) (isS:=true) (len:=n) (cap:=cap) (lo:=lo.map a.eval) (hi:=hi.map a.eval) (l:=l) (h:=hh)
     (b1.imp (fun x=>⟨by simp[x.1],x.2⟩) (fun ⟨y,k,x1,x2⟩=>⟨k,by simp[x1,x2]⟩)) (b2.imp (fun x=>⟨by simp[x.1],x.2⟩) (fun ⟨y,k,x1,x2⟩=>⟨k,by simp[x1,x2]⟩)) c1 c2 c3 hcap
    simp only[Instr.sliceAt,Sem.run_bind,run_underlying t1,Result.andThen_ok,Instr.slice,hev,hev',this,sizeOf,typeInfo,run_program,t2,Sem.run_pure,t3,Option.map_none]
   have hd:∀ {v:Value} {f':Fp},(execOp a.eval o).run C.P w = .ok (.value v) w→R w C.Fz (fun b j=>Lt b j∨G1 fp b j) σ.g [.mv σ.g el] [.lst (hh.toNat - l.toNat) ((cs.drop (ix el.length l.toNat 0)).take (ix el.length (hh.toNat - l.toNat) 0))] [v] f'→(f'.map Fe.b).Nodup→(∀ y∈f',y∈f) →
     AN C o a w ⟨Ae (AL o (.val false [.mv σ.g el] [.lst (hh.toNat - l.toNat) ((cs.drop (ix el.length l.toNat 0)).take (ix el.length (hh.toNat - l.toNat) 0))] [] 0)++[(k,(AE σ.env k).withRoot p (Aj rcs (ix p.length pl.e pl.c) [.lst n (DY el l.toNat (hh.toNat - l.toNat) cs)]) (([pl.c],0,el.length)::d))]) σ.env,σ.g⟩:=by
    intro v f' hr hR hnd hsub
    refine AN.madeW (W:=fun _ _=>False) (us:=[(k,_)]) (ft:=fun _=>f) (fr:=fun _=>fr) (f:=f') H' (Ab.refl w _) (by simp) (by simp) (by simp) (by simp) hr hna
     (fun cv' env' d' hc'=>⟨[v],by simp[AD,hc'],hR,by simp⟩) (by simp[AA.root]) rfl hfr (by simp) (fun k' t' hm => ?_) hnd (fun y hy => .inr ⟨k,by simp,y,hsub y hy,rfl,Nat.le_refl _,Nat.le_refl _⟩)
    simp only[mem_singleton,zP] at hm
    obtain ⟨rfl,rfl⟩:=hm
    exact hleft
   have hfn:(f.map Fe.b).Nodup:=by
    have:=hleft.nodup
    rw[map_append,nodup_append] at this
    exact this.1
   by_cases hz:hh.toNat - l.toNat=0
   ·have hcap:∃ ad cap,cv tt = .slice ad n cap∧n≤cap:=by
     rcases hcase with ⟨h1,-,h2⟩ | ⟨b,off,cap,row,ety,fr',q1,q2,q3,q4,-⟩
     ·exact ⟨none,0,by rw[h2,h1],by omega⟩
     ·exact ⟨_,cap,q1,q4⟩
    obtain ⟨ad,cap,hva,hcap⟩:=hcap
    have hex:=hexec hva hcap
    rw[hz] at hex
    refine hd hex ?_ (by simp:(([]:Fp).map Fe.b).Nodup) (by simp)
    rw[hz,HL,take_zero]
    exact .mvE .nil
   ·rcases hcase with ⟨h1,-,-⟩ | ⟨b,off,cap,row,ety,fr',q1,q2,q3,q4,q5,q6,q7⟩
    ·omega
    ·have hex:=hexec q1 q4
     rw[if_neg (by omega)] at hex
     simp only[Option.map_some,Addr.add_lit] at hex
     have hmul:l.toNat * el.length+(hh.toNat - l.toNat) * el.length≤n * el.length:=by
      rw[← Nat.add_mul];exact Nat.mul_le_mul_right _ (by omega)
     have hcapm:n * el.length≤cap * el.length:=Nat.mul_le_mul_right _ q4
     refine hd hex ?_ hfn (fun _ h=>h)
     rw[Gk,Gk]
     have:=R.mvO (ps:=[]) (ts:=[]) (vs:=[]) (fp₂:=[]) (cap:=cap - l.toNat) (off:=off+l.toNat * el.length) q2 q3 (fun j a1 a2 => .inr ⟨k,_,q7,rfl,by show off+n * el.length≠0;omega,by show off≤j;omega,by show j<off+n * el.length;omega⟩) rfl (by omega) q6 (R.nil (w:=w) (Fz:=C.Fz) (Lt:=fun b j=>Lt b j∨G1 fp b j) (g:=σ.g))
     rw[append_nil] at this
     exact this
 | val ag p cs0 d pin=>simp[hg] at h
 | _=>simp[hg] at h
theorem Kn (H:DT C o w a σ Lt cv fp) {X:Operand} {lo hi:Option Operand} {t:TypeId} (hop:o.op = .slice t X lo hi none)
  {out:A9} (h:CB C.E o t (AB σ.env X) (lo.map (AB σ.env)) (hi.map (AB σ.env)) 0 σ.g=some out) (hfr:Av o σ out.ups) :
  out.g=none∧AN C o a w ⟨Ae out.ups σ.env,σ.g⟩:=by
 unfold CB at h
 split at h
 ·rename_i x hx
  simp only[zS] at h
  subst h
  exact MV H hop hx hfr
 ·exact Jp H hop h hfr
end
def noLt:Nat→Nat→Prop:=fun _ _=>False
inductive Bz (w:World) (Fz:Nat→Prop):List Am→List Value→Fp→Prop
 | nil:Bz w Fz [] [] []
 | val {v x vs az xs fs} (h:AD v.agg x vs) (hR:R w Fz noLt 0 v.p v.cs vs []) (r:Bz w Fz az xs fs):Bz w Fz (⟨.val,v⟩::az) (x::xs) fs
 | io {v x vs f az xs fs} (h:AD v.agg x vs) (hR:R w Fz noLt 0 v.p v.cs vs f) (r:Bz w Fz az xs fs):Bz w Fz (⟨.io,v⟩::az) (x::xs) (f++fs)
 | iop {p cs x f az xs fs} (hR:R w Fz noLt 0 [.rf .own p] [.ref cs] [x] f) (r:Bz w Fz az xs fs):Bz w Fz (⟨.iop,⟨false,[.rf .own p],[.ref cs]⟩⟩::az) (x::xs) (f++fs)
inductive C2 (w:World) (Fz:Nat→Prop) (Lt:Nat→Nat→Prop) (g:Nat):List Am→List Value→List (Option V)→Fp→Prop
 | nil:C2 w Fz Lt g [] [] [] []
 | val {v x az xs os fs} (r:C2 w Fz Lt g az xs os fs):C2 w Fz Lt g (⟨.val,v⟩::az) (x::xs) (none::os) fs
 | io {v x vs f az xs fs} {ov:V} {os} (h:AD v.agg x vs) (hR:R w Fz Lt g ov.p ov.cs vs f) (r:C2 w Fz Lt g az xs os fs):C2 w Fz Lt g (⟨.io,v⟩::az) (x::xs) (some ov::os) (f++fs)
 | iop {v p cs x f az xs fs os} (hR:R w Fz Lt g [.rf .own p] [.ref cs] [x] f) (r:C2 w Fz Lt g az xs os fs):C2 w Fz Lt g (⟨.iop,v⟩::az) (x::xs) (some ⟨false,[.rf .own p],[.ref cs]⟩::os) (f++fs)
inductive Dy (w:World) (Fz:Nat→Prop) (Lt:Nat→Nat→Prop) (g:Nat):List V→List Value→List Fp→Prop
 | nil:Dy w Fz Lt g [] [] []
 | cons {v x vs f rs xs fs} (h:AD v.agg x vs) (hR:R w Fz Lt g v.p v.cs vs f) (r:Dy w Fz Lt g rs xs fs):Dy w Fz Lt g (v::rs) (x::xs) (f::fs)
def NQ (w:World) (Fz:Nat→Prop) (Lt:Nat→Nat→Prop) (g:Nat) (rs:List V) (x:Value) (fs:List Fp):Prop:=∃ xs,Dy w Fz Lt g rs xs fs∧match rs with
 | [_]=>xs=[x]
 | _=>x = .tuple xs.toArray
def HN (w:World) (Fz:Nat→Prop) (az:List Am) (xs:List Value) (mfp:Fp) (r:By) (v:Value) (w':World):Prop :=
 Ab w w' (Mut mfp)∧∃ Lt g fr fo,NQ w' Fz Lt g r.rs v fr∧C2 w' Fz Lt g az xs r.outs fo∧((fr.flatten++fo).map Fe.b).Nodup ∧
  ∀ x∈fr.flatten++fo,w.heap.size≤x.b∨∃ y∈mfp,y.b=x.b∧y.lo≤x.lo∧x.t≤y.t
def Lc (P:Program) (f:FuncId) (xs:Array Value) (w:World) (Post:Value→World→Prop):Prop :=
 (∃ v w',(callFunc f xs).run P w = .ok (.value v) w'∧Post v w') ∨
   ((callFunc f xs).run P w = .ok (.enter f xs) w∧Calls P f xs w fun | .returned v,w'=>Post v w' | _,_=>False)
def FnOk (P:Program) (L:List String) (callF:Nat→List Am→Option By) (f:Nat):Prop :=
 ∀ az r,callF f az=some r→∀ (w:World) (Fz:Nat→Prop) (xs:List Value) (mfp:Fp),Bz w Fz az xs mfp→(mfp.map Fe.b).Nodup→(∀ b,Fz b→b<w.heap.size)→Laid P L w Fz →
  Lc P f xs.toArray w (HN w Fz az xs mfp r)
section
variable {C:BU} {w w':World} {a a':Act} {σ:AS} {Lt Lt':Nat→Nat→Prop} {cv cv':Nat→Value} {fp fpU:Nat→Fp} {g g':Nat} {env':List (Nat × AA)} {o:Oper} {Fz Fz':Nat→Prop}
theorem AN.call {f:FuncId} {xs:Array Value} {σ':AS} {Post:Value→World→Prop} (hr:(execOp a.eval o).run C.P w=(callFunc f xs).run C.P w) (hc:Lc C.P f xs w Post)
  (hp:∀ v w',Post v w'→St C w' (a.put o.dst v) σ'):AN C o a w σ' :=by
 rcases hc with ⟨v,w',h1,h2⟩ | ⟨h1,h2⟩
 ·exact AN.value (hr.trans h1) (hp v w' h2)
 ·intro next Q hn
  simp only[Oper.wp,Oper.upon,hr.trans h1]
  refine h2.mono fun e w' he => ?_
  cases e with
  | returned v=>exact hn v w' (hp v w' he)
  | panicked chain=>exact he.elim
  | outgrown=>exact he.elim
def Sb (C:BU) (w:World) (a:Act) (σ:AS) (Lt:Nat→Nat→Prop) (cv:Nat→Value) (r:Ro) (x:Value):Prop :=
 (∃ X,AT X∧r=AB σ.env X∧x=a.eval X) ∨
 (∃ t k pl,r = .slot t (.ptr k pl) (AE σ.env k)∧Ld w (cv k) (AE σ.env k) pl x∧k<1000000∧AI (AE σ.env k)) ∨
 (∃ v vs,r = .v v∧AD v.agg x vs∧R w C.Fz Lt σ.g v.p v.cs vs [])
theorem QB (h:BY C w a σ Lt cv fp) {r:Ro} {x:Value} {ty:Nat} {v:V} (hro:Sb C w a σ Lt cv r x) (hr:AV C.E ty r=some v) :
  ∃ vs f,AD v.agg x vs∧R w C.Fz Lt σ.g v.p v.cs vs f∧∀ y∈f,∃ k∈r.rootNo,y∈fp k:=by
 rcases hro with ⟨X,hX,rfl,rfl⟩ | ⟨t,k,pl,rfl,-,-,-⟩ | ⟨v',vs,rfl,h1,h2⟩
 ·cases X with
  | const c =>
    simp only[AB,AV] at hr
    obtain ⟨vs,h1,h2⟩:=Bu (w:=w) (Lt:=Lt) (Fz:=C.Fz) (g:=σ.g) hr
    exact ⟨vs,[],h1,h2,by simp⟩
  | global g=>simp[AB,AV] at hr
  | func f =>
    simp only[AB,AV,zS] at hr
    subst hr
    exact ⟨[_],[],by simp[AD,Act.eval],.fnv (caps:=[]) .nil .nil,by simp⟩
  | tmp t =>
    rw[Ay h hX]
    rw[AJ] at hr ⊢
    have hs:=h.slots t
    cases hg:AE σ.env t with
    | val ag p cs d pin =>
      rw[hg] at hs
      simp only[hg,AV,zS] at hr
      subst hr
      obtain ⟨vs,h1,h2,-⟩:=hs
      exact ⟨vs,fp t,h1,h2,fun y hy=>⟨t,by simp[Ro.rootNo],hy⟩⟩
    | view k pl =>
      rw[hg] at hs
      simp only[hg,AV] at hr
      cases hroot:(AE σ.env k).root with
      | none=>simp[hroot] at hr
      | some pcd =>
        obtain ⟨p,cs,d⟩:=pcd
        simp only[hroot] at hr
        split at hr
        ·simp at hr
        ·rename_i hst
         obtain ⟨vs0,base0,el,rv,base,k1,k2,k3,-⟩:=hs.2 p cs d hroot (by simpa using hst)
         obtain ⟨vs1,base1,j1,j2⟩:=(h.slots k).atPlace (h.nodup k) hroot hr
         obtain ⟨rfl,rfl⟩:=k1.uniq j1
         obtain ⟨f',hf',hR⟩:=j2 el rv base k2
         obtain ⟨_,_,_,_,_,a4⟩:=Ac hr
         exact ⟨_,f',by rw[a4];exact k3,hR,fun y hy=>⟨k,by simp[Ro.rootNo],hf' y hy⟩⟩
    | _=>simp[hg,AV] at hr
 ·simp[AV] at hr
 ·simp only[AV,zS] at hr
  subst hr
  exact ⟨vs,[],h1,h2,by simp⟩
theorem Mm (h:BY C w a σ Lt cv fp) {r:Ro} {x:Value} {k:Nat} {pl:AO} {root:AA} (hro:Sb C w a σ Lt cv r x) (hr:A1 r=some (k,pl,root)) :
  root=AE σ.env k∧k<1000000∧k∈r.rootNo∧AI (AE σ.env k)∧∃ p cs d,root.root=some (p,cs,d) ∧
   ∃ vs0 base0 el rv b o,AY w (cv k) root vs0 base0∧A8 w p vs0 base0 pl.path=some (el,rv,some (b,o)) ∧
    x = .pointer (some ⟨b,o+ix el.length pl.e pl.c,none⟩):=by
 rcases hro with ⟨X,hX,rfl,rfl⟩ | ⟨t,k',pl',rfl,h1,h2,h3⟩ | ⟨v',vs,rfl,-,-⟩
 ·have hin:k∈(AB σ.env X).rootNo:=by
   cases X with
   | tmp t =>
     rw[AJ] at hr ⊢
     cases hg:AE σ.env t with
     | ptr k' pl' =>
       simp only[hg,A1] at hr ⊢
       split at hr
       ·simp at hr
       split at hr
       ·simp at hr
       simp only[zS,zP] at hr
       obtain ⟨rfl,-,-⟩:=hr
       simp[Ro.rootNo]
     | box =>
       simp only[hg,A1,zS,zP] at hr ⊢
       obtain ⟨rfl,-,-⟩:=hr
       simp[Ro.rootNo]
     | _=>simp[hg,A1] at hr
   | _=>simp[AB,A1] at hr
  obtain ⟨rfl,hk,p,cs,dd,hroot,hseen,vs0,base0,el,rv,b,i,hrv,hcr,hev⟩:=D9 h hX hr
  exact ⟨rfl,hk,hin,DP hroot hseen,p,cs,dd,hroot,vs0,base0,el,rv,b,i,hrv,hcr,hev⟩
 ·simp only[A1] at hr
  cases hroot:(AE σ.env k').root with
  | none=>simp[hroot] at hr
  | some pcd =>
    obtain ⟨p,cs,d⟩:=pcd
    simp only[hroot] at hr
    split at hr
    ·simp at hr
    ·rename_i hst
     simp only[zS,zP] at hr
     obtain ⟨rfl,rfl,rfl⟩:=hr
     obtain ⟨vs0,base0,el,rv,b,i,q1,q2,q3,-⟩:=h1 p cs d hroot (by simpa using hst)
     exact ⟨rfl,h2,by simp[Ro.rootNo],h3,p,cs,d,hroot,vs0,base0,el,rv,b,i,q1,q2,q3⟩
 ·simp[A1] at hr
def QF (C:BU) (σ:AS) (Lt:Nat→Nat→Prop) (gm:Option Nat) (Fz':Nat→Prop):Prop :=
 (∀ b,C.Fz b→Fz' b)∧(∀ g,gm=some g→g=σ.g∧∀ b j,Lt b j→Fz' b)
theorem R.shareBy {gm:Option Nat} {ps ts vs f} (h:R w C.Fz Lt σ.g ps ts vs f) (hs:QF C σ Lt gm Fz') (hp:∀ x∈f,Fz' x.b):R w Fz' noLt 0 (shareBy gm ps) ts vs []:=by
 cases gm with
 | none=>exact h.share hs.1 hp
 | some g =>
   obtain ⟨rfl,hl⟩:=hs.2 g rfl
   exact h.shareG hs.1 hl hp
theorem Ci (gm:Option Nat) (ps:List Pm):(shareBy gm ps).length=ps.length:=by
 cases gm with
 | none=>exact AK ps
 | some g=>exact AP ps
theorem LL {gm:Option Nat} (h:BY C w a σ Lt cv fp) {k:Nat} {pl:AO} {p:List Pm} {cs:List T} {d:CE} {v:V} {x:Value} (hroot:(AE σ.env k).root=some (p,cs,d)) (ha:atPlace p cs pl=some v)
  {vs0 base0 el rv b i} (hrv:AY w (cv k) (AE σ.env k) vs0 base0) (hcr:A8 w p vs0 base0 pl.path=some (el,rv,some (b,i))) (hx:x = .pointer (some ⟨b,i+ix el.length pl.e pl.c,none⟩))
  (hs:QF C σ Lt gm Fz') (hp:∀ x∈fp k,Fz' x.b) (hpos:0<pl.n) :
  R w Fz' noLt 0 [.rf .shr (shareBy gm v.p)] [.ref v.cs] [x] []:=by
 obtain ⟨vs1,base1,j1,j2⟩:=(h.slots k).atPlace (h.nodup k) hroot ha
 obtain ⟨rfl,rfl⟩:=hrv.uniq j1
 obtain ⟨f',hf',hR⟩:=j2 el rv _ hcr
 obtain ⟨el',rcs,a1,a2,a3,-⟩:=Ac ha
 obtain rfl:=Dl _ a1 hcr
 have hsh:=hR.shareBy (gm:=gm) hs (fun y hy=>hp y (hf' y hy))
 obtain ⟨vs2,base2,fI,hrv2,hR2,hsub,hk⟩:=(h.slots k).rootR hroot
 obtain ⟨rfl,rfl⟩:=hrv.uniq hrv2
 have hfI:(fI.map Fe.b).Nodup:=by
  rcases hk with ⟨_,_,_,_,e⟩ | ⟨_,_,_,_,_,_,_,_,_,_,_,_,e,_⟩
  ·rw[e];exact h.nodup k
  ·have:=h.nodup k;rw[e] at this;simp only[map_cons,nodup_cons] at this;exact this.2
 have hb:Fz' b:=by
  cases hpath:pl.path with
  | nil =>
    rw[hpath] at hcr
    simp only[A8,zS,zP] at hcr
    obtain ⟨-,-,rfl⟩:=hcr
    rcases hk with ⟨_,_,_,e,_⟩ | ⟨_,b1,off,row,e,fr,_,hbase,_,_,_,_,e2,_⟩
    ·simp at e
    ·simp only[zS,zP] at hbase
     obtain ⟨rfl,rfl⟩:=hbase
     exact hp ⟨b,i,i+p.length,0,i+p.length⟩ (by rw[e2];simp)
  | cons ec path =>
    have hne:rcs≠[]:=by
     rintro rfl
     have:=(Bh a3).2.2 hpos
     simp at this;omega
    rw[← BI p] at hR2
    obtain ⟨m',rv',base',fpI,fpO,hcr',-,hperm,-,hcons,-⟩:=hR2.focus (W:=fun _ _=>False) pl.path base0 hfI a1 hne
    rw[hcr] at hcr'
    obtain ⟨-,-,rfl⟩:el'=el'∧rv=rv'∧some (b,i)=base' :=by simpa using hcr'
    obtain ⟨b1,i1,row,ety,fr,hbase,hrow⟩:=hcons (by rw[hpath];simp)
    simp only[zS,zP] at hbase
    obtain ⟨rfl,rfl⟩:=hbase
    obtain ⟨fe,hfe,fe1,-⟩:=hrow.own
    exact fe1 ▸ hp fe (hsub fe (hperm.mem_iff.2 (by simp[hfe])))
 obtain ⟨row,e,fr,m,hbk,rfl⟩:=Kp hrv hcr
 simp only[Desk.pick] at hsh
 have hvl:=(An a2).2.1
 have hlen:=hsh.length_eq.2
 rw[Ci,hvl] at hlen
 obtain ⟨q1,q2⟩:=JH hlen hpos
 rw[Bf q1] at hsh
 rw[hx]
 exact .rfS (by rw[Ci,hvl];exact hpos) hbk hb (by rw[Ci,hvl]) (by rw[Ci,hvl];exact q2) hsh .nil
end
theorem N6 {ps qs:List Pm} {i n:Nat} (h:BO ps i n=some qs):BH ps i qs=ps:=by
 obtain ⟨h1,h2,h3⟩:=An h
 rcases Nat.eq_zero_or_pos n with rfl | hn
 ·have:qs=[]:=length_eq_zero_iff.1 h2
  subst this;rfl
 ·have h3:=h3 hn
  rw[KD (by omega),h2,h1]
  exact (KO ps i n).symm
section
variable {C:BU} {w w':World} {a a':Act} {σ:AS} {Lt Lt':Nat→Nat→Prop} {cv cv':Nat→Value} {fp fpU:Nat→Fp} {g g':Nat} {env':List (Nat × AA)} {o:Oper} {Fz Fz':Nat→Prop}
def SM (w':World) (Fz:Nat→Prop) (g':Nat) (arg:Am) (x:Value) (ov:V) (f:Fp):Prop:=match arg.m with
 | .io=>∃ vs,AD arg.v.agg x vs∧R w' Fz noLt g' ov.p ov.cs vs f
 | .iop=>R w' Fz noLt g' ov.p ov.cs [x] f
 | .val=>False
structure Ji (C:BU) (w:World) (σ:AS) (cv:Nat→Value) (fp:Nat→Fp) (k:Nat) (pl:AO) (arg:Am) (x:Value) (fm fr:Fp):Prop where
 notval:arg.m ≠ .val
 small:k<1000000
 sub:∀ y∈fm,∃ z∈fp k,z.b=y.b∧z.lo≤y.lo∧y.t≤z.t
 rest:∀ y∈fr,y∈fp k
 nodup:((fm++fr).map Fe.b).Nodup
 close:∀ (w':World) (W:Nat→Nat→Prop) ov s f,Ab w w' W→(∀ b j,C.Fz b→¬ W b j)→(∀ y∈fr,∀ j,¬ W y.b j)→(∀ y∈fm,∀ j,W y.b j→y.lo≤j∧j<y.t) →
  SM w' C.Fz (σ.g+1) arg x ov f→CC arg pl (AE σ.env k) ov=some s →
  ∃ F,(F.map Fe.b).Perm ((f++fr).map Fe.b)∧(∀ y∈F,y∈fp k∨y∈f)∧(∀ cv' env',cv' k=cv k→AR C w' noLt (σ.g+1) cv' env' k F s)∧s.looks=[]∧AI s∧AC w w' (cv k) (AE σ.env k) (cv k) s
theorem DO (a b c:Fp):((a++(b++c)).map Fe.b).Perm ((b++(a++c)).map Fe.b):=by
 refine List.Perm.map _ ?_
 rw[perm_iff_count];intro z;simp only[count_append];omega
theorem NG {p:List Pm} {cs:List T} {d:CE} {s0:AA} {f fI:Fp} {vs0:List Value} {base0:Option (Nat × Nat)} {v:Value} (hn:(f.map Fe.b).Nodup)
  (hk:(∃ ag pin,s0 = .val ag p cs d pin∧base0=none∧fI=f) ∨
    (∃ pin b off row e fr,s0 = .box p cs d pin∧base0=some (b,off)∧v = .pointer (some ⟨b,off,none⟩)∧w.heap[b]?=some (.cells row e fr)∧vs0=seg row off p.length∧off+p.length≤row.size ∧
      f=⟨b,off,off+p.length,0,off+p.length⟩::fI∧0<p.length∧¬ Fz b∧(∀ j,¬ Lt b j)∧(∀ j,off≤j→j<off+p.length→¬ (fr.1≤j∧j<fr.2)))):(fI.map Fe.b).Nodup:=by
 rcases hk with ⟨_,_,_,_,e⟩ | ⟨_,_,_,_,_,_,_,_,_,_,_,_,e,_⟩
 ·rw[e];exact hn
 ·rw[e] at hn;simp only[map_cons,nodup_cons] at hn;exact hn.2
theorem JM (h:BY C w a σ Lt cv fp) {k:Nat} {pl:AO} {v:V} {p:List Pm} {cs:List T} {d:CE} (hroot:(AE σ.env k).root=some (p,cs,d)) (hpath:pl.path=[]) (hpos:0<pl.n)
  (ha:atPlace p cs pl=some v) (hnl:noLents v.p=true) {vs0 base0} (hrv:AY w (cv k) (AE σ.env k) vs0 base0) :
  ∃ f1 fm f2 fI,fI=f1++(fm++f2)∧(fI.map Fe.b).Nodup∧(∀ x∈fI,x∈fp k)∧pl.c+pl.n≤p.length∧vs0.length=p.length∧v.p.length=pl.n∧v.cs.length=pl.n ∧
   R w C.Fz noLt 0 v.p v.cs ((vs0.drop pl.c).take pl.n) fm ∧
   ((∃ ag pin,AE σ.env k = .val ag p cs d pin∧base0=none∧fI=fp k) ∨
    (∃ pin b off row e fr,AE σ.env k = .box p cs d pin∧base0=some (b,off)∧cv k = .pointer (some ⟨b,off,none⟩)∧w.heap[b]?=some (.cells row e fr)∧vs0=seg row off p.length∧off+p.length≤row.size ∧
      fp k=⟨b,off,off+p.length,0,off+p.length⟩::fI∧0<p.length∧¬ C.Fz b∧(∀ j,¬ Lt b j)∧(∀ j,off≤j→j<off+p.length→¬ (fr.1≤j∧j<fr.2)))) ∧
   (∀ (w':World) (W:Nat→Nat→Prop) (ov:V) f vs',Ab w w' W→(∀ b j,C.Fz b→¬ W b j)→(∀ y∈f1++f2,∀ j,¬ W y.b j)→R w' C.Fz noLt (σ.g+1) ov.p ov.cs vs' f→ov.p=v.p →
     R w' C.Fz noLt (σ.g+1) p (Aj cs pl.c ov.cs) (vs0.take pl.c++(vs'++vs0.drop (pl.c+pl.n))) (f1++(f++f2))) ∧
   ∀ (w':World) (W:Nat→Nat→Prop) (ov:V) f vs',Ab w w' W→(∀ b j,C.Fz b→¬ W b j)→(∀ y∈f1++f2,∀ j,¬ W y.b j)→R w' C.Fz noLt (σ.g+1) ov.p ov.cs vs' f→ov.p.length=pl.n →
    R w' C.Fz noLt (σ.g+1) (BH p pl.c ov.p) (Aj cs pl.c ov.cs) (vs0.take pl.c++(vs'++vs0.drop (pl.c+pl.n))) (f1++(f++f2)):=by
 obtain ⟨el,rcs,a1,a2,a3,a4⟩:=Ac ha
 rw[hpath] at a1
 simp only[rowAt,zS,zP] at a1
 obtain ⟨rfl,rfl⟩:=a1
 obtain ⟨vs1,base1,fI,hrv',hR,hsub,hk⟩:=(h.slots k).rootR hroot
 obtain ⟨rfl,rfl⟩:=hrv.uniq hrv'
 rw[F4 a2 a3 hR.length_eq.1 hpos] at a3
 have hRb:=hR.bump (Nat.lt_succ_self σ.g)
 obtain ⟨f1,fm,f2,hfI,hlen,hR1,hback⟩:=hRb.resubP a2 a3 hpos
 have gen:∀ (w':World) (W:Nat→Nat→Prop) (ov:V) f vs',Ab w w' W→(∀ b j,C.Fz b→¬ W b j)→(∀ y∈f1++f2,∀ j,¬ W y.b j)→R w' C.Fz noLt (σ.g+1) ov.p ov.cs vs' f→ov.p.length=pl.n →
    R w' C.Fz noLt (σ.g+1) (BH p pl.c ov.p) (Aj cs pl.c ov.cs) (vs0.take pl.c++(vs'++vs0.drop (pl.c+pl.n))) (f1++(f++f2)):=by
  intro w' W ov f vs' hx wF wR hRo hpe
  exact hback w' noLt W ov.p ov.cs vs' f hx (by simp) wF (by simp) (fun x hx'=>⟨fun j _ _=>wR x hx' j,by simp[noLt]⟩) hRo hpe
 refine ⟨f1,fm,f2,fI,hfI,NG (h.nodup k) hk,hsub,hlen,hR.length_eq.2,(An a2).2.1,(Bh a3).2.1,hR1.noLent hnl (by simp[noLt]),hk,?_,gen⟩
 intro w' W ov f vs' hx wF wR hRo hpe
 have:=gen w' W ov f vs' hx wF wR hRo (by rw[hpe];exact (An a2).2.1)
 rw[hpe,N6 a2] at this
 exact this
theorem RZ (h:BY C w a σ Lt cv fp) {k:Nat} {pl:AO} {v:V} {x:Value} {p:List Pm} {cs:List T} {d:CE} (hk0:k<1000000) (hroot:(AE σ.env k).root=some (p,cs,d)) (hpath:pl.path=[]) (hpos:0<pl.n)
  (ha:atPlace p cs pl=some v) (hnl:noLents v.p=true) {vs0 base0} (hrv:AY w (cv k) (AE σ.env k) vs0 base0) (hx:AD v.agg x ((vs0.drop pl.c).take pl.n)) :
  ∃ fm fr,R w C.Fz noLt 0 v.p v.cs ((vs0.drop pl.c).take pl.n) fm∧Ji C w σ cv fp k pl ⟨.io,v⟩ x fm fr:=by
 obtain ⟨f1,fm,f2,fI,hfI,hn,hsub,hlen,hvl,hpl,hcl,hR,hk,hback,hbackD⟩:=JM h hroot hpath hpos ha hnl hrv
 have hmem:∀ y,y∈fm∨y∈f1++f2→y∈fI:=by
  intro y hy;rw[hfI];simp only[mem_append] at hy ⊢;rcases hy with h | h | h <;>simp[h]
 have hnd:((fm++(f1++f2)).map Fe.b).Nodup:=by
  rw[hfI] at hn;exact (DO f1 fm f2).nodup_iff.1 hn
 have hcut:vs0.take pl.c++((vs0.drop pl.c).take pl.n++vs0.drop (pl.c+pl.n))=vs0:=(KO vs0 pl.c pl.n).symm
 rcases hk with ⟨ag,pin,hs0,rfl,rfl⟩ | ⟨pin,b,off,row,e,fr,hs0,rfl,hcv,hb,hv0,hsz,hfp,hp0,hz,hl,hfree⟩
 ·refine ⟨fm,f1++f2,hR,⟨by simp,hk0,fun y hy=>⟨y,hmem y (.inl hy),rfl,Nat.le_refl _,Nat.le_refl _⟩,fun y hy=>hmem y (.inr hy),hnd,?_⟩⟩
  intro w' W ov s f hx' wF wR wM hO hp
  obtain ⟨vs,hc,hRo⟩:=hO
  obtain rfl:=hx.uniq hc
  simp only[CC,hs0,AA.root,hpath] at hp
  split at hp
  ·rename_i hcond
   simp only[zB,beq_iff_eq] at hcond
   simp only[zS] at hp
   subst hp
   have hR' :=hback w' W ov f _ hx' wF wR hRo (pbeqs_eq hcond.1)
   rw[hcut] at hR'
   have hsl:=h.slots k
   rw[hs0] at hsl
   obtain ⟨vs2,c1,-,c3⟩:=hsl
   rw[hs0] at hrv
   obtain rfl:=hrv.1.uniq c1
   refine ⟨_,DO f1 f f2,fun y hy => ?_,fun cv' env' hcv=>⟨vs0,by rw[hcv];exact c1,hR',c3⟩,rfl,trivial,?_⟩
   ·simp only[mem_append] at hy
    rcases hy with h | h | h
    ·exact .inl (hmem y (.inr (by simp[h])))
    ·exact .inr h
    ·exact .inl (hmem y (.inr (by simp[h])))
   ·rw[hs0]
    exact AC.turned (s:=.val ag p cs d pin) rfl rfl (fun h=>absurd rfl h) (fun vs base hv=>⟨vs,hv⟩) (fun h=>absurd rfl h)
  ·split at hp
   ·rename_i hcond
    simp only[zB,beq_iff_eq] at hcond
    simp only[zS] at hp
    subst hp
    have hR' :=hbackD w' W ov f _ hx' wF wR hRo hcond.1.2
    rw[hcut] at hR'
    have hsl:=h.slots k
    rw[hs0] at hsl
    obtain ⟨vs2,c1,-,c3⟩:=hsl
    rw[hs0] at hrv
    obtain rfl:=hrv.1.uniq c1
    have hplen:(BH p pl.c ov.p).length=p.length:=by have:=hR'.length_eq.2;omega
    refine ⟨_,DO f1 f f2,fun y hy => ?_,fun cv' env' hcv=>⟨vs0,by rw[hcv];exact c1,hR',c3⟩,rfl,by simp[AA.withRoot,AI],?_⟩
    ·simp only[mem_append] at hy
     rcases hy with h | h | h
     ·exact .inl (hmem y (.inr (by simp[h])))
     ·exact .inr h
     ·exact .inl (hmem y (.inr (by simp[h])))
    ·rw[hs0]
     exact AC.turned (s:=.val ag p cs d pin) rfl hplen (fun h=>absurd rfl h) (fun vs base hv=>⟨vs,hv⟩) (fun h=>absurd rfl h)
   ·simp at hp
 ·have hbI:b ∉ fI.map Fe.b:=by
   have:=h.nodup k
   rw[hfp] at this
   simp only[map_cons,nodup_cons] at this
   exact this.1
  refine ⟨fm,⟨b,off,off+p.length,0,off+p.length⟩::(f1++f2),hR,⟨by simp,hk0,fun y hy=>⟨y,hsub y (hmem y (.inl hy)),rfl,Nat.le_refl _,Nat.le_refl _⟩,fun y hy => ?_,?_,?_⟩⟩
  ·rw[mem_cons] at hy
   rcases hy with rfl | hy
   ·rw[hfp];simp
   ·exact hsub y (hmem y (.inr hy))
  ·have hpm:((fm++((⟨b,off,off+p.length,0,off+p.length⟩:Fe)::(f1++f2))).map Fe.b).Perm (b::(fm++(f1++f2)).map Fe.b):=by
    simp only[map_append,map_cons]
    exact perm_middle
   rw[hpm.nodup_iff,nodup_cons]
   refine ⟨fun hm=>hbI ?_,hnd⟩
   rw[hfI];exact (DO f1 fm f2).mem_iff.2 hm
  ·intro w' W ov s f hx' wF wR wM hO hp
   obtain ⟨vs,hc,hRo⟩:=hO
   obtain rfl:=hx.uniq hc
   simp only[CC,hs0,AA.root,hpath] at hp
   split at hp
   ·rename_i hcond
    simp only[zB,beq_iff_eq] at hcond
    simp only[zS] at hp
    subst hp
    have hR' :=hback w' W ov f _ hx' wF (fun y hy=>wR y (mem_cons_of_mem _ hy)) hRo (pbeqs_eq hcond.1)
    rw[hcut] at hR'
    obtain ⟨row',frn,k1,k2,k3,k4⟩:=hx'.cells b row e fr hb
    have e0:frn=fr:=k4.elim id fun x=>absurd (x.2 0 (Nat.zero_le _)) (wR ⟨b,off,off+p.length,0,off+p.length⟩ (mem_cons_self ..) 0)
    rw[e0] at k1
    have hseg:seg row' off p.length=seg row off p.length:=Aw fun j _ _=>k3 j (wR ⟨b,off,off+p.length,0,off+p.length⟩ (mem_cons_self ..) j)
    have hsl:=h.slots k
    rw[hs0] at hsl
    obtain ⟨-,c3⟩:=hsl
    refine ⟨⟨b,off,off+p.length,0,off+p.length⟩::(f1++(f++f2)),?_,fun y hy => ?_,fun cv' env' hcv'=>⟨?_,fun hpin => ?_⟩,rfl,trivial,?_⟩
    ·have:((f++((⟨b,off,off+p.length,0,off+p.length⟩:Fe)::(f1++f2))).map Fe.b).Perm (b::(f++(f1++f2)).map Fe.b):=by
      simp only[map_append,map_cons]
      exact perm_middle
     refine List.Perm.trans ?_ this.symm
     simp only[map_cons]
     exact (DO f1 f f2).cons b
    ·simp only[mem_cons,mem_append] at hy
     rcases hy with rfl | h | h | h
     ·exact .inl (by rw[hfp];simp)
     ·exact .inl (hsub y (hmem y (.inr (by simp[h]))))
     ·exact .inr h
     ·exact .inl (hsub y (hmem y (.inr (by simp[h]))))
    ·rw[hcv',hcv]
     have:=R.rfO (Lt:=noLt) (g:=σ.g+1) (ps:=[]) (ts:=[]) (vs:=[]) (fp₂:=[]) hp0 k1 hz (by simp[noLt]) (hseg.trans hv0.symm) (by omega) hfree hR' .nil
     simpa using this
    ·obtain ⟨b2,off2,row2,e2,fr2,d1,d2,d3⟩:=c3 hpin
     rw[hcv] at d1
     obtain ⟨rfl,rfl⟩:b=b2∧off=off2:=by simpa using d1
     rw[hb] at d2
     obtain ⟨rfl,rfl,rfl⟩:row=row2∧e=e2∧fr=fr2:=by simpa using d2
     exact ⟨b,off,row',e,fr,by rw[hcv',hcv],k1,hseg.trans d3⟩
    ·rw[hs0]
     refine AC.turned (s:=.box p cs d pin) rfl rfl (fun h=>absurd rfl h) (fun vs base hv => ?_) (fun h=>absurd rfl h)
     obtain ⟨b2,off2,row2,e2,fr2,d1,d2,d3,d4⟩:=hv
     obtain ⟨row3,fr3,m1,m2,m3,-⟩:=hx'.cells b2 row2 e2 fr2 d2
     exact ⟨seg row3 off2 p.length,b2,off2,row3,e2,fr3,d1,m1,rfl,d4⟩
   ·split at hp
    ·rename_i hcond
     simp only[zB,beq_iff_eq] at hcond
     simp only[zS] at hp
     subst hp
     have hR' :=hbackD w' W ov f _ hx' wF (fun y hy=>wR y (mem_cons_of_mem _ hy)) hRo hcond.1.2
     rw[hcut] at hR'
     have hplen:(BH p pl.c ov.p).length=p.length:=by have:=hR'.length_eq.2;omega
     obtain ⟨row',frn,k1,k2,k3,k4⟩:=hx'.cells b row e fr hb
     have e0:frn=fr:=k4.elim id fun x=>absurd (x.2 0 (Nat.zero_le _)) (wR ⟨b,off,off+p.length,0,off+p.length⟩ (mem_cons_self ..) 0)
     rw[e0] at k1
     have hseg:seg row' off p.length=seg row off p.length:=Aw fun j _ _=>k3 j (wR ⟨b,off,off+p.length,0,off+p.length⟩ (mem_cons_self ..) j)
     have hsl:=h.slots k
     rw[hs0] at hsl
     obtain ⟨-,c3⟩:=hsl
     refine ⟨⟨b,off,off+p.length,0,off+p.length⟩::(f1++(f++f2)),?_,fun y hy => ?_,fun cv' env' hcv'=>⟨?_,fun hpin => ?_⟩,rfl,by simp[AA.withRoot,AI],?_⟩
     ·have:((f++((⟨b,off,off+p.length,0,off+p.length⟩:Fe)::(f1++f2))).map Fe.b).Perm (b::(f++(f1++f2)).map Fe.b):=by
       simp only[map_append,map_cons]
       exact perm_middle
      refine List.Perm.trans ?_ this.symm
      simp only[map_cons]
      exact (DO f1 f f2).cons b
     ·simp only[mem_cons,mem_append] at hy
      rcases hy with rfl | h | h | h
      ·exact .inl (by rw[hfp];simp)
      ·exact .inl (hsub y (hmem y (.inr (by simp[h]))))
      ·exact .inr h
      ·exact .inl (hsub y (hmem y (.inr (by simp[h]))))
     ·rw[hcv',hcv]
      have:=R.rfO (Lt:=noLt) (g:=σ.g+1) (el:=BH p pl.c ov.p) (ps:=[]) (ts:=[]) (vs:=[]) (fp₂:=[]) (by rw[hplen];exact hp0) k1 hz (by simp[noLt]) (by rw[hplen];exact hseg.trans hv0.symm) (by rw[hplen];omega) (by rw[hplen];exact hfree) hR' .nil
      simpa [hplen] using this
     ·obtain ⟨b2,off2,row2,e2,fr2,d1,d2,d3⟩:=c3 hpin
      rw[hcv] at d1
      obtain ⟨rfl,rfl⟩:b=b2∧off=off2:=by simpa using d1
      rw[hb] at d2
      obtain ⟨rfl,rfl,rfl⟩:row=row2∧e=e2∧fr=fr2:=by simpa using d2
      exact ⟨b,off,row',e,fr,by rw[hcv',hcv],k1,by rw[hplen];exact hseg.trans d3⟩
     ·rw[hs0]
      refine AC.turned (s:=.box p cs d pin) rfl hplen (fun h=>absurd rfl h) (fun vs base hv => ?_) (fun h=>absurd rfl h)
      obtain ⟨b2,off2,row2,e2,fr2,d1,d2,d3,d4⟩:=hv
      obtain ⟨row3,fr3,m1,m2,m3,-⟩:=hx'.cells b2 row2 e2 fr2 d2
      exact ⟨seg row3 off2 (BH p pl.c ov.p).length,b2,off2,row3,e2,fr3,d1,m1,rfl,d4⟩
    ·simp at hp
theorem Ht:∀ {ps:List Pm},J9 ps=true→noOwns ps=true
 | [],_=>rfl
 | p::ps,h=>by
   have h':p.isDead=true∧J9 ps=true:=by
    unfold J9 at h ⊢
    simpa only[all_cons,zB] using h
   have:=Ht h'.2
   cases p with
   | dead=>simpa [noOwns,Pm.noOwn] using this
   | _=>exact absurd h'.1 (by simp[Pm.isDead])
theorem P2 (h:BY C w a σ Lt cv fp) {k:Nat} {pl:AO} {v:V} {x:Value} {p:List Pm} {cs:List T} {d:CE} (hk0:k<1000000) (hroot:(AE σ.env k).root=some (p,cs,d)) (hpath:pl.path≠[]) (hpos:0<pl.n)
  (ha:atPlace p cs pl=some v) (hnl:noLents v.p=true) {vs0 base0} (hrv:AY w (cv k) (AE σ.env k) vs0 base0) {el rv base} (hcr:A8 w p vs0 base0 pl.path=some (el,rv,base))
  (hx:AD v.agg x (Desk.pick rv el pl)) :
  ∃ fm fr,R w C.Fz noLt 0 v.p v.cs (Desk.pick rv el pl) fm∧Ji C w σ cv fp k pl ⟨.io,v⟩ x fm fr:=by
 obtain ⟨el',rcs,a1,a2,a3,a4⟩:=Ac ha
 obtain ⟨vs1,base1,fI,hrv',hR,hsub,hk⟩:=(h.slots k).rootR hroot
 obtain ⟨rfl,rfl⟩:=hrv.uniq hrv'
 have hn:=NG (h.nodup k) hk
 have hRb:=hR.bump (Nat.lt_succ_self σ.g)
 rw[← BI p] at hRb
 have hrne:rcs≠[]:=by
  rintro rfl
  have:=(Bh a3).2.2 hpos
  simp at this;omega
 obtain ⟨m',rv',base',fpI,fpO,hcr',hRI,hperm,-,hcons,hset⟩:=hRb.focusW pl.path base0 hn a1 hrne
 rw[hcr] at hcr'
 obtain ⟨rfl,rfl,rfl⟩:el=el'∧rv=rv'∧base=base' :=by simpa using hcr'
 obtain ⟨b,i,row,ety,fr0,rfl,hrow⟩:=hcons hpath
 obtain ⟨fe,hfe,fe1,fe2,fe3,fe4⟩:=hrow.own
 obtain ⟨f1,fm,f2,rfl,hlen,hRm,hre⟩:=hRI.resub a2 a3 hpos
 have hmem:∀ y,y∈fm∨y∈f1++(f2++fpO)→y∈fI:=by
  intro y hy
  refine hperm.mem_iff.2 ?_
  simp only[mem_append] at hy ⊢
  rcases hy with h | h | h | h <;>simp[h]
 have hpm0:(f1++(fm++f2)++fpO).Perm (fm++(f1++(f2++fpO))):=by
  rw[perm_iff_count];intro z;simp only[count_append];omega
 have hnd:((fm++(f1++(f2++fpO))).map Fe.b).Nodup:=((hperm.trans hpm0).map Fe.b).nodup_iff.1 hn
 have hcut:rv.take (ix el.length pl.e pl.c)++((rv.drop (ix el.length pl.e pl.c)).take pl.n++rv.drop (ix el.length pl.e pl.c+pl.n))=rv:=(KO rv _ pl.n).symm
 have hRm0:R w C.Fz noLt 0 v.p v.cs (Desk.pick rv el pl) fm:=hRm.noLent hnl (by simp[noLt])
 have hback:∀ (w':World) (W:Nat→Nat→Prop) (ncs:List T) f,Ab w w' W→(∀ b j,C.Fz b→¬ W b j)→(∀ y∈f1++(f2++fpO),∀ j,¬ W y.b j)→R w' C.Fz noLt (σ.g+1) v.p ncs (Desk.pick rv el pl) f →
   ∃ fp',R w' C.Fz noLt (σ.g+1) p (Ah p cs pl.path fun rcs=>Aj rcs (ix el.length pl.e pl.c) ncs) vs0 fp'∧fp'.Perm (f++(f1++(f2++fpO))):=by
  intro w' W ncs f hx' wF wR hRo
  have hnewI:=hre w' W _ _ _ hx' wF (by first | simp | simp[noLt] | (intros;trivial)) (fun y hy j _ _=>wR y (by simp only[mem_append] at hy ⊢;rcases hy with h | h <;>simp[h]) j) hRo
  rw[show Desk.pick rv el pl=(rv.drop (ix el.length pl.e pl.c)).take pl.n from rfl,hcut] at hnewI
  obtain ⟨row',frn,c1,c2,c3,c4⟩:=hx'.cells b row ety fr0 hrow.hb
  have e0:frn=fr0:=c4.elim id fun x=>absurd (x.2 0 (Nat.zero_le _)) (fe1 ▸ wR fe (by simp[hfe]) 0)
  rw[e0] at c1
  have hseg:seg row' i (m' * el.length)=rv:=by
   rw[← hrow.seg]
   exact Aw fun j _ _=>c3 j (fe1 ▸ wR fe (by simp[hfe]) j)
  obtain ⟨fp',hRn,hpermN⟩:=hset W w' _ rv _ hx' wF (by first | simp | simp[noLt] | (intros;trivial)) (fun y hy _ j _ _=>wR y (by simp[hy]) j) hnewI (fun b2 o2 hb2 _=>by
   simp only[zS,zP] at hb2
   obtain ⟨rfl,rfl⟩:=hb2
   exact ⟨row',ety,fr0,c1,hseg,fun _ _ _ hb0=>by rw[hrow.hb] at hb0;simp only[zS,Obj.cells.injEq] at hb0;exact hb0.2.2⟩)
  rw[if_neg hpath,BI,← E8 pl.path (f:=fun rcs=>Aj rcs (ix el.length pl.e pl.c) ncs) a1] at hRn
  exact ⟨fp',hRn,hpermN.trans (by rw[perm_iff_count];intro z;simp only[count_append];omega)⟩
 have hput:∀ (ov:V) (s:AA),CC ⟨.io,v⟩ pl (AE σ.env k) ov=some s→∃ ncs,s=(AE σ.env k).withRoot p (Ah p cs pl.path fun rcs=>Aj rcs (ix el.length pl.e pl.c) ncs) ((Dx pl.path,pl.c,pl.n)::d) ∧
   ∀ (w':World) (W:Nat→Nat→Prop) f,Ab w w' W→(∀ b j,C.Fz b→¬ W b j)→R w' C.Fz noLt (σ.g+1) ov.p ov.cs (Desk.pick rv el pl) f→R w' C.Fz noLt (σ.g+1) v.p ncs (Desk.pick rv el pl) f:=by
  intro ov s hp
  simp only[CC,hroot] at hp
  split at hp
  ·rename_i hcond
   simp only[zB,beq_iff_eq] at hcond
   cases hpp:pl.path with
   | nil=>exact absurd hpp hpath
   | cons ec path' =>
     rw[hpp] at a1
     simp only[hpp,a1,zS] at hp
     refine ⟨ov.cs,hp.symm,fun w' W f _ _ h => ?_⟩
     rw[pbeqs_eq hcond.1] at h;exact h
  ·split at hp
   ·rename_i hcond
    simp only[zB] at hcond
    cases hpp:pl.path with
    | nil=>exact absurd hpp hpath
    | cons ec path' =>
      rw[hpp] at a1
      simp only[hpp,a1] at hp
      split at hp
      ·simp at hp
      rename_i hs hh
      simp only[zS] at hp
      refine ⟨hs,hp.symm,fun w' W f hx' wF h => ?_⟩
      obtain rfl:=h.noOwn (Ht hcond.1.1)
      exact ((hRm0.holes hh).bump (Nat.zero_lt_succ σ.g)).mono (W:=W) hx' (fun _ h=>h) (fun _ _ h=>h) wF (by simp) (by simp)
   ·simp at hp
 rcases hk with ⟨ag,pin,hs0,rfl,rfl⟩ | ⟨pin,b0,off,row0,e0,fr1,hs0,rfl,hcv,hb,hv0,hsz,hfp,hp0,hz,hl,hfree⟩
 ·refine ⟨fm,f1++(f2++fpO),hRm0,⟨by simp,hk0,fun y hy=>⟨y,hmem y (.inl hy),rfl,Nat.le_refl _,Nat.le_refl _⟩,fun y hy=>hmem y (.inr hy),hnd,?_⟩⟩
  intro w' W ov s f hx' wF wR wM hO hp
  obtain ⟨vs,hc,hRo⟩:=hO
  obtain rfl:=hx.uniq hc
  obtain ⟨ncs,rfl,hto⟩:=hput ov s hp
  obtain ⟨fp',hR',hpf⟩:=hback w' W ncs f hx' wF wR (hto w' W f hx' wF hRo)
  have hsl:=h.slots k
  rw[hs0] at hsl
  obtain ⟨vs2,c1,-,c3⟩:=hsl
  rw[hs0] at hrv
  obtain rfl:=hrv.1.uniq c1
  rw[hs0]
  refine ⟨fp',hpf.map Fe.b,fun y hy => ?_,fun cv' env' hcv=>⟨vs0,by rw[hcv];exact c1,hR',c3⟩,rfl,trivial,?_⟩
  ·have:=hpf.mem_iff.1 hy
   simp only[mem_append] at this
   rcases this with h | h | h | h
   ·exact .inr h
   ·exact .inl (hmem y (.inr (by simp[h])))
   ·exact .inl (hmem y (.inr (by simp[h])))
   ·exact .inl (hmem y (.inr (by simp[h])))
  ·exact AC.turned (s:=.val ag p cs d pin) rfl rfl (fun _ vs base hv=>hv) (fun vs base hv=>⟨vs,hv⟩) (fun hq=>⟨rfl,⟨_,hx'⟩,fun e c h=>Cq (by rintro e;simp[Dx,e] at hq) e c h⟩)
 ·have hbI:b0 ∉ fI.map Fe.b:=by
   have:=h.nodup k
   rw[hfp] at this
   simp only[map_cons,nodup_cons] at this
   exact this.1
  refine ⟨fm,⟨b0,off,off+p.length,0,off+p.length⟩::(f1++(f2++fpO)),hRm0,⟨by simp,hk0,fun y hy=>⟨y,hsub y (hmem y (.inl hy)),rfl,Nat.le_refl _,Nat.le_refl _⟩,fun y hy => ?_,?_,?_⟩⟩
  ·rw[mem_cons] at hy
   rcases hy with rfl | hy
   ·rw[hfp];simp
   ·exact hsub y (hmem y (.inr hy))
  ·have hpm:((fm++((⟨b0,off,off+p.length,0,off+p.length⟩:Fe)::(f1++(f2++fpO)))).map Fe.b).Perm (b0::(fm++(f1++(f2++fpO))).map Fe.b):=by
    simp only[map_append,map_cons]
    exact perm_middle
   rw[hpm.nodup_iff,nodup_cons]
   refine ⟨fun hm=>hbI ?_,hnd⟩
   exact ((hperm.trans hpm0).map Fe.b).mem_iff.2 hm
  ·intro w' W ov s f hx' wF wR wM hO hp
   obtain ⟨vs,hc,hRo⟩:=hO
   obtain rfl:=hx.uniq hc
   obtain ⟨ncs,rfl,hto⟩:=hput ov s hp
   obtain ⟨fp',hR',hpf⟩:=hback w' W ncs f hx' wF (fun y hy=>wR y (mem_cons_of_mem _ hy)) (hto w' W f hx' wF hRo)
   obtain ⟨row',frn,k1,k2,k3,k4⟩:=hx'.cells b0 row0 e0 fr1 hb
   have ef:frn=fr1:=k4.elim id fun x=>absurd (x.2 0 (Nat.zero_le _)) (wR ⟨b0,off,off+p.length,0,off+p.length⟩ (mem_cons_self ..) 0)
   rw[ef] at k1
   have hseg:seg row' off p.length=seg row0 off p.length:=Aw fun j _ _=>k3 j (wR ⟨b0,off,off+p.length,0,off+p.length⟩ (mem_cons_self ..) j)
   have hsl:=h.slots k
   rw[hs0] at hsl ⊢
   obtain ⟨-,c3⟩:=hsl
   refine ⟨⟨b0,off,off+p.length,0,off+p.length⟩::fp',?_,fun y hy => ?_,fun cv' env' hcv'=>⟨?_,fun hpin => ?_⟩,rfl,trivial,?_⟩
   ·have:((f++((⟨b0,off,off+p.length,0,off+p.length⟩:Fe)::(f1++(f2++fpO)))).map Fe.b).Perm (b0::(f++(f1++(f2++fpO))).map Fe.b):=by
     simp only[map_append,map_cons]
     exact perm_middle
    refine List.Perm.trans ?_ this.symm
    simp only[map_cons]
    exact (hpf.map Fe.b).cons b0
   ·rcases mem_cons.1 hy with rfl | hy
    ·exact .inl (by rw[hfp];simp)
    ·have:=hpf.mem_iff.1 hy
     simp only[mem_append] at this
     rcases this with h | h | h | h
     ·exact .inr h
     ·exact .inl (hsub y (hmem y (.inr (by simp[h]))))
     ·exact .inl (hsub y (hmem y (.inr (by simp[h]))))
     ·exact .inl (hsub y (hmem y (.inr (by simp[h]))))
   ·rw[hcv',hcv]
    have:=R.rfO (Lt:=noLt) (g:=σ.g+1) (ps:=[]) (ts:=[]) (vs:=[]) (fp₂:=[]) hp0 k1 hz (by first | simp | simp[noLt] | (intros;trivial)) (hseg.trans hv0.symm) (by omega) hfree hR' .nil
    simpa using this
   ·obtain ⟨b2,off2,row2,e2,fr2,d1,d2,d3⟩:=c3 hpin
    rw[hcv] at d1
    obtain ⟨rfl,rfl⟩:b0=b2∧off=off2:=by simpa using d1
    rw[hb] at d2
    obtain ⟨rfl,rfl,rfl⟩:row0=row2∧e0=e2∧fr1=fr2:=by simpa using d2
    exact ⟨b0,off,row',e0,fr1,by rw[hcv',hcv],k1,hseg.trans d3⟩
   ·refine AC.turned (s:=.box p cs d pin) rfl rfl (fun _ vs base hv => ?_) (fun vs base hv => ?_) (fun hq=>⟨rfl,⟨_,hx'⟩,fun e c h=>Cq (by rintro e;simp[Dx,e] at hq) e c h⟩)
    ·obtain ⟨b2,off2,row2,e2,fr2,d1,d2,d3,d4⟩:=hv
     obtain ⟨row3,fr3,m1,m2,m3,-⟩:=hx'.cells b2 row2 e2 fr2 d2
     rw[hcv] at d1
     obtain ⟨rfl,rfl⟩:b0=b2∧off=off2:=by simpa using d1
     rw[hb] at d2
     obtain ⟨rfl,rfl,rfl⟩:row0=row2∧e0=e2∧fr1=fr2:=by simpa using d2
     exact ⟨b0,off,row',e0,fr1,hcv,k1,d3.trans hseg.symm,d4⟩
    ·obtain ⟨b2,off2,row2,e2,fr2,d1,d2,d3,d4⟩:=hv
     obtain ⟨row3,fr3,m1,m2,m3,-⟩:=hx'.cells b2 row2 e2 fr2 d2
     exact ⟨seg row3 off2 p.length,b2,off2,row3,e2,fr3,d1,m1,rfl,d4⟩
theorem QR (h:BY C w a σ Lt cv fp) {k:Nat} {pl:AO} {v:V} {x:Value} {p:List Pm} {cs:List T} {d:CE} (hk0:k<1000000) (hroot:(AE σ.env k).root=some (p,cs,d)) (hpath:pl.path=[]) (hpos:0<pl.n)
  (hpin:(AE σ.env k).pinned=false) (ha:atPlace p cs pl=some v) (hnl:noLents v.p=true) {vs0 b i} (hrv:AY w (cv k) (AE σ.env k) vs0 (some (b,i))) (hx:x = .pointer (some ⟨b,i+ix p.length pl.e pl.c,none⟩)) :
  ∃ fm fr,R w C.Fz noLt 0 [.rf .own v.p] [.ref v.cs] [x] fm∧Ji C w σ cv fp k pl ⟨.iop,⟨false,[.rf .own v.p],[.ref v.cs]⟩⟩ x fm fr:=by
 have hix:ix p.length pl.e pl.c=pl.c:=by
  obtain ⟨el,rcs,a1,a2,a3,a4⟩:=Ac ha
  rw[hpath] at a1
  simp only[rowAt,zS,zP] at a1
  obtain ⟨rfl,rfl⟩:=a1
  obtain ⟨vs1,base1,fI,hrv',hR,-⟩:=(h.slots k).rootR hroot
  exact F4 a2 a3 hR.length_eq.1 hpos
 rw[hix] at hx
 obtain ⟨f1,fm,f2,fI,hfI,hn,hsub,hlen,hvl,hpl,hcl,hR,hk,hback,hbackD⟩:=JM h hroot hpath hpos ha hnl hrv
 have hmem:∀ y,y∈fm∨y∈f1++f2→y∈fI:=by
  intro y hy;rw[hfI];simp only[mem_append] at hy ⊢;rcases hy with h | h | h <;>simp[h]
 have hnd:((fm++(f1++f2)).map Fe.b).Nodup:=by
  rw[hfI] at hn;exact (DO f1 fm f2).nodup_iff.1 hn
 rcases hk with ⟨ag,pin,hs0,e,-⟩ | ⟨pin,b',off,row,e,fr,hs0,hbase,hcv,hb,hv0,hsz,hfp,hp0,hz,hl,hfree⟩
 ·simp at e
 ·obtain ⟨rfl,rfl⟩:b=b'∧i=off:=by simpa using hbase
  have hpin0:pin=0:=by
   rw[hs0] at hpin;cases pin with
   | zero=>rfl
   | succ n=>simp[AA.pinned] at hpin
  subst hpin0
  have hbI:b ∉ fI.map Fe.b:=by
   have:=h.nodup k
   rw[hfp] at this
   simp only[map_cons,nodup_cons] at this
   exact this.1
  have hsegc:(vs0.drop pl.c).take pl.n=seg row (i+pl.c) pl.n:=by rw[hv0,Bf hlen]
  have hRx:R w C.Fz noLt 0 [.rf .own v.p] [.ref v.cs] [x] (⟨b,i+pl.c,i+pl.c+v.p.length,0,i+pl.c+v.p.length⟩::fm):=by
   rw[hx]
   have:=R.rfO (Fz:=C.Fz) (Lt:=noLt) (g:=0) (ps:=[]) (ts:=[]) (vs:=[]) (fp₂:=[]) (off:=i+pl.c) (el:=v.p) (by omega) hb hz (by simp[noLt]) (by rw[hpl];exact hsegc.symm) (by omega) (fun j h1 h2=>hfree j (by omega) (by omega)) hR .nil
   simpa using this
  refine ⟨_,f1++f2,hRx,⟨by simp,hk0,fun y hy => ?_,fun y hy=>hsub y (hmem y (.inr hy)),?_,?_⟩⟩
  ·rw[mem_cons] at hy
   rcases hy with rfl | hy
   ·exact ⟨⟨b,i,i+p.length,0,i+p.length⟩,by rw[hfp];simp,rfl,by simp,by simp;omega⟩
   ·exact ⟨y,hsub y (hmem y (.inl hy)),rfl,Nat.le_refl _,Nat.le_refl _⟩
  ·simp only[cons_append,map_cons,nodup_cons]
   refine ⟨fun hm=>hbI ?_,hnd⟩
   rw[hfI];exact (DO f1 fm f2).mem_iff.2 hm
  ·intro w' W ov s f hx' wF wR wM hO hp
   simp only[SM] at hO
   simp only[CC,hs0,AA.root,hpath] at hp
   split at hp
   ·rename_i q c q' hop hoc hq'
    split at hp
    ·rename_i hcond
     simp only[zB,beq_iff_eq] at hcond
     simp only[zS] at hp
     subst hp
     obtain rfl:v.p=q' :=by simpa using hq'
     obtain rfl:q=v.p:=pbeqs_eq hcond.1
     rw[hop,hoc,hx] at hO
     cases hO with
     | @rfO _ _ row' e' fr' _ _ vs' _ _ _ fi f2' h0 hb' hz' hl' hs' hr' hf' hi' r' =>
       cases r'
       have hR' :=hback w' W ⟨ov.agg,v.p,c⟩ fi vs' hx' wF wR hi' rfl
       obtain ⟨row2,frn,k1,k2,k3,k4⟩:=hx'.cells b row e fr hb
       rw[hb'] at k1
       obtain ⟨rfl,rfl,rfl⟩:row'=row2∧e'=e∧fr'=frn:=by simpa using k1
       have hfree:∀ j,i≤j→j<i+p.length→¬ (fr'.1≤j∧j<fr'.2):=fun j a c=>by
        rcases k4 with rfl | ⟨-,x⟩
        ·exact hfree j a c
        ·have:=wM ⟨b,i+pl.c,i+pl.c+v.p.length,0,i+pl.c+v.p.length⟩ (mem_cons_self ..) j (x j (by omega))
         exact hf' j this.1 this.2
       have hvl':vs'.length=pl.n:=by rw[hi'.length_eq.2,hpl]
       have hout:∀ j,¬ (i+pl.c≤j∧j<i+pl.c+vs'.length)→row'[j]?=row[j]? :=fun j hj=>k3 j fun hw=>by
        have:=wM ⟨b,i+pl.c,i+pl.c+v.p.length,0,i+pl.c+v.p.length⟩ (mem_cons_self ..) j hw
        simp only at this
        exact hj ⟨this.1,by omega⟩
       have hseg:seg row' i p.length=vs0.take pl.c++(vs'++vs0.drop (pl.c+pl.n)):=by
        have:=HU (row:=row) (row' :=row') (off:=i) (c:=pl.c) (N:=p.length) (vs:=vs') (by omega) hsz k2 (by rw[hvl',← hpl];exact hs') hout
        rw[this,hv0,hvl']
       refine ⟨⟨b,i,i+p.length,0,i+p.length⟩::(f1++(fi++f2)),?_,fun y hy => ?_,fun cv' env' hcv'=>⟨?_,fun h=>absurd rfl h⟩,rfl,trivial,?_⟩
       ·simp only[append_nil,map_cons,cons_append]
        exact (DO f1 fi f2).cons b
       ·simp only[mem_cons,mem_append] at hy
        rcases hy with rfl | h | h | h
        ·exact .inl (by rw[hfp];simp)
        ·exact .inl (hsub y (hmem y (.inr (by simp[h]))))
        ·exact .inr (by simp[h])
        ·exact .inl (hsub y (hmem y (.inr (by simp[h]))))
       ·rw[hcv',hcv]
        have:=R.rfO (Fz:=C.Fz) (Lt:=noLt) (g:=σ.g+1) (ps:=[]) (ts:=[]) (vs:=[]) (fp₂:=[]) hp0 hb' hz (by simp[noLt]) hseg (by omega) hfree hR' .nil
        simpa using this
       ·rw[hs0]
        refine AC.turned (s:=.box p cs d 0) rfl rfl (fun h=>absurd rfl h) (fun vs base hv => ?_) (fun h=>absurd rfl h)
        obtain ⟨b2,off2,row3,e2,fr2,d1,d2,d3,d4⟩:=hv
        obtain ⟨row4,fr4,m1,m2,m3,-⟩:=hx'.cells b2 row3 e2 fr2 d2
        exact ⟨seg row4 off2 p.length,b2,off2,row4,e2,fr4,d1,m1,rfl,d4⟩
    ·simp at hp
   ·simp at hp
end
section
variable {C:BU} {w w':World} {a a':Act} {σ:AS} {Lt Lt':Nat→Nat→Prop} {cv cv':Nat→Value} {fp fpU:Nat→Fp} {g g':Nat} {env':List (Nat × AA)} {o:Oper} {Fz Fz':Nat→Prop}
inductive FP (C:BU) (w:World) (σ:AS) (cv:Nat→Value) (fp:Nat→Fp):List Am→List Value→List (Nat × AO)→Fp→Fp→Prop
 | nil:FP C w σ cv fp [] [] [] [] []
 | val {v x az xs ks m fr} (r:FP C w σ cv fp az xs ks m fr):FP C w σ cv fp (⟨.val,v⟩::az) (x::xs) ks m fr
 | turn {k pl arg x fm f0 az xs ks m fr} (h:Ji C w σ cv fp k pl arg x fm f0) (r:FP C w σ cv fp az xs ks m fr) :
    FP C w σ cv fp (arg::az) (x::xs) ((k,pl)::ks) (fm++m) (f0++fr)
inductive Pb (C:BU) (w:World) (a:Act) (σ:AS) (Lt:Nat→Nat→Prop) (cv:Nat→Value):List Ro→List Value→Prop
 | nil:Pb C w a σ Lt cv [] []
 | cons {r x rs xs} (h:Sb C w a σ Lt cv r x) (t:Pb C w a σ Lt cv rs xs):Pb C w a σ Lt cv (r::rs) (x::xs)
theorem Ij {gm:Option Nat} (h:BY C w a σ Lt cv fp) (hs:QF C σ Lt gm Fz'):∀ {caps:List (Nat × AO)} {vs:List Value} {ps ts},CJ w cv σ.env caps vs→(∀ k∈caps.map (·.1),∀ y∈fp k,Fz' y.b) →
  NA gm (caps.map fun c=>(c.1,c.2,AE σ.env c.1))=some (ps,ts)→R w Fz' noLt 0 ps ts vs []
 | [],[],ps,ts,_,_,hc=>by
   simp only[map_nil,NA,zS,zP] at hc
   obtain ⟨rfl,rfl⟩:=hc
   exact .nil
 | [],_::_,_,_,hr,_,_=>hr.elim
 | _::_,[],_,_,hr,_,_=>hr.elim
 | c::caps,v::vs,ps,ts,hr,hf,hc=>by
   simp only[map_cons,NA] at hc
   cases hroot:(AE σ.env c.1).root with
   | none=>simp[hroot] at hc
   | some pcd =>
     obtain ⟨p,cs,d⟩:=pcd
     simp only[hroot] at hc
     split at hc
     ·simp at hc
     rename_i hst
     split at hc
     ·simp at hc
     rename_i u hu
     split at hc
     ·simp at hc
     rename_i hpos
     split at hc
     ·simp at hc
     rename_i ps' ts' hc'
     simp only[zS,zP] at hc
     obtain ⟨rfl,rfl⟩:=hc
     have hpos:0<c.2.n:=by
      rcases Nat.eq_zero_or_pos c.2.n with h | h
      ·simp[h] at hpos
      ·exact h
     obtain ⟨vs0,base0,el,rv,b,i,h1,h2,h3⟩:=hr.1 p cs d hroot (by simpa using hst)
     have hone:=LL (gm:=gm) h hroot hu h1 h2 h3.1 hs (hf c.1 (by simp)) hpos
     have hrest:=Ij h hs hr.2 (fun k hk=>hf k (by simp only[map_cons,mem_cons];exact .inr hk)) hc'
     exact hone.append hrest
theorem Na {gm:Option Nat} (h:BY C w a σ Lt cv fp) {r:Ro} {x:Value} {ty:Nat} {arg:Am} {ks:List (Nat × AO)} (hro:Sb C w a σ Lt cv r x) (hm:CL C.E gm .val ty r=some (arg,ks)) (hs:QF C σ Lt gm Fz')
  (hp:(∀ k∈r.rootNo,∀ y∈fp k,Fz' y.b)∨∃ v,AV C.E ty r=some v∧noOwns v.p=true) :
  ks=[]∧∃ v vs,arg=⟨.val,v⟩∧AD v.agg x vs∧R w Fz' noLt 0 v.p v.cs vs []:=by
 simp only[CL] at hm
 split at hm
 ·rename_i v hv
  simp only[zS,zP] at hm
  obtain ⟨rfl,rfl⟩:=hm
  obtain ⟨vs,f,h1,h2,h3⟩:=QB h hro hv
  refine ⟨rfl,_,vs,rfl,h1,h2.shareBy hs fun y hy => ?_⟩
  rcases hp with hp | ⟨v',e,hn⟩
  ·obtain ⟨k,hk,hyk⟩:=h3 y hy
   exact hp k hk y hyk
  ·obtain rfl:=Option.some.inj (hv.symm.trans e)
   rw[h2.noOwn hn] at hy
   simp at hy
 ·rename_i hnone
  have hp:=hp.resolve_right (by rintro ⟨v,e,-⟩;rw[hnone] at e;simp at e)
  split at hm
  ·rename_i t f caps _
   split at hm
   ·simp at hm
   ·rename_i ps ts hc
    simp only[zS,zP] at hm
    obtain ⟨rfl,rfl⟩:=hm
    rcases hro with ⟨X,hX,e,rfl⟩ | ⟨t',k,pl,e,-⟩ | ⟨v',vs,e,-⟩
    ·cases X with
     | tmp t' =>
       rw[AJ] at e
       cases hg:AE σ.env t' with
       | clo f' caps' =>
         rw[hg] at e
         simp only[Ro.clo.injEq] at e
         obtain ⟨rfl,rfl,rfl⟩:=e
         have hsl:=h.slots t
         rw[hg] at hsl
         obtain ⟨-,vs,hv,hcr⟩:=hsl
         refine ⟨rfl,_,[cv t],rfl,by simp[AD,Ay h hX],?_⟩
         rw[hv]
         have hR:=Ij (gm:=gm) h hs hcr (fun k hk=>hp k (by
          simp only[Ro.rootNo,map_map]
          simpa [Function.comp_def] using hk)) hc
         exact .fnv hR .nil
       | _=>simp[hg] at e
     | _=>simp[AB] at e
    ·simp at e
    ·simp at e
  ·split at hm
   ·simp at hm
   rename_i k pl root hptr
   obtain ⟨rfl,hk,hin,hseen,p,cs,d,hroot,vs0,base0,el,rv,b,i,h1,h2,h3⟩:=Mm h hro hptr
   simp only[hroot] at hm
   split at hm
   ·simp at hm
   rename_i v hv
   split at hm
   ·simp at hm
   rename_i hpos
   simp only[zS,zP] at hm
   obtain ⟨rfl,rfl⟩:=hm
   have hpos:0<pl.n:=by
    rcases Nat.eq_zero_or_pos pl.n with h | h
    ·simp[h] at hpos
    ·exact h
   exact ⟨rfl,_,[x],rfl,by simp[AD],LL (gm:=gm) h hroot hv h1 h2 h3 hs (hp k hin) hpos⟩
theorem MM (h:BY C w a σ Lt cv fp) {r:Ro} {x:Value} {ty:Nat} {m:BX} {gm:Option Nat} {arg:Am} {ks:List (Nat × AO)} (hm0:Gf m=false) (hro:Sb C w a σ Lt cv r x) (hm:CL C.E gm m ty r=some (arg,ks))
  (hF:∀ b,C.Fz b→Fz' b) (hz:∀ k∈ks.map (·.1),∀ y∈fp k,¬ Fz' y.b) :
  ∃ k pl fm fr,ks=[(k,pl)]∧Ji C w σ cv fp k pl arg x fm fr∧∀ az xs fs,Bz w Fz' az xs fs→Bz w Fz' (arg::az) (x::xs) (fm++fs):=by
 have toFz:∀ {k:Nat} {fm:Fp} {ps ts vs},(∀ y∈fp k,¬ Fz' y.b)→(∀ y∈fm,∃ z∈fp k,z.b=y.b∧z.lo≤y.lo∧y.t≤z.t)→R w C.Fz noLt 0 ps ts vs fm→R w Fz' noLt 0 ps ts vs fm:=by
  intro k fm ps ts vs hz hsub hR
  refine hR.mono (W:=fun _ _=>False) (Ab.refl _ _) hF (fun _ _ h=>h) (by simp) (by simp) fun y hy=>⟨by simp,?_,by simp[noLt]⟩
  obtain ⟨z,hz1,hz2,-⟩:=hsub y hy
  rw[← hz2];exact hz z hz1
 cases m with
 | val=>simp[Gf] at hm0
 | io =>
   simp only[CL] at hm
   split at hm
   ·simp at hm
   rename_i k pl root hio
   have key:root=AE σ.env k∧k<1000000∧∀ p cs d,root.root=some (p,cs,d)→CY d pl=false→∃ vs0 base0 el rv base,AY w (cv k) root vs0 base0∧A8 w p vs0 base0 pl.path=some (el,rv,base)∧AD pl.agg x (Desk.pick rv el pl):=by
    rcases hro with ⟨X,hX,rfl,rfl⟩ | ⟨t',k',pl',rfl,-⟩ | ⟨v',vs,rfl,-⟩
    ·cases X with
     | tmp t =>
       rw[Ay h hX]
       rw[AJ] at hio
       have hsl:=h.slots t
       cases hg:AE σ.env t with
       | view k' pl' =>
         simp only[hg,Da,zS,zP] at hio
         obtain ⟨rfl,rfl,rfl⟩:=hio
         rw[hg] at hsl
         refine ⟨rfl,(h.looks t k' (by rw[hg];simp[AA.looks])).1,fun p cs d hr hst => ?_⟩
         obtain ⟨vs0,base0,el,rv,base,k1,k2,k3,-⟩:=hsl.2 p cs d hr hst
         exact ⟨vs0,base0,el,rv,base,k1,k2,k3⟩
       | val ag p cs d pin =>
         simp only[hg,Da,zS,zP] at hio
         obtain ⟨rfl,rfl,rfl⟩:=hio
         rw[hg] at hsl
         refine ⟨hg.symm,hX,fun p' cs' d' hr hst => ?_⟩
         simp only[AA.root,zS,zP] at hr
         obtain ⟨rfl,rfl,rfl⟩:=hr
         obtain ⟨vs,c1,c2,-⟩:=hsl
         exact ⟨vs,none,p,vs,none,⟨c1,rfl⟩,rfl,by rw[J5 c2.length_eq.2];exact c1⟩
       | _=>simp[hg,Da] at hio
     | _=>simp[AB,Da] at hio
    ·simp[Da] at hio
    ·simp[Da] at hio
   obtain ⟨rfl,hk,key⟩:=key
   split at hm
   ·simp at hm
   rename_i p cs d hroot
   split at hm
   ·simp at hm
   rename_i hcond
   simp only[Bool.or_eq_true,not_or,Bool.not_eq_true] at hcond
   obtain ⟨⟨hst,he⟩,hpos⟩:=hcond
   split at hm
   ·simp at hm
   rename_i v hv
   split at hm
   ·rename_i hnl
    simp only[zS,zP] at hm
    obtain ⟨rfl,rfl⟩:=hm
    have hpos:0<pl.n:=by
     rcases Nat.eq_zero_or_pos pl.n with h | h
     ·simp[h] at hpos
     ·exact h
    obtain ⟨vs0,base0,el,rv,base,hrv,hcr,hc⟩:=key p cs d hroot hst
    obtain ⟨el',rcs,a1,a2,a3,a4⟩:=Ac hv
    by_cases hpath:pl.path=[]
    ·rw[hpath] at hcr a1
     simp only[A8,zS,zP] at hcr
     obtain ⟨rfl,rfl,rfl⟩:=hcr
     simp only[rowAt,zS,zP] at a1
     obtain ⟨rfl,rfl⟩:=a1
     obtain ⟨vs1,base1,fI,hrv',hR,-⟩:=(h.slots k).rootR hroot
     have hix:=F4 a2 a3 hR.length_eq.1 hpos
     simp only[Desk.pick,hix] at hc
     rw[← a4] at hc
     obtain ⟨fm,fr,hR1,hO⟩:=RZ h hk hroot hpath hpos hv hnl hrv hc
     exact ⟨k,pl,fm,fr,rfl,hO,fun az xs fs ha => .io hc (toFz (hz k (by simp)) hO.sub hR1) ha⟩
    ·rw[← a4] at hc
     obtain ⟨fm,fr,hR1,hO⟩:=P2 h hk hroot hpath hpos hv hnl hrv hcr hc
     exact ⟨k,pl,fm,fr,rfl,hO,fun az xs fs ha => .io hc (toFz (hz k (by simp)) hO.sub hR1) ha⟩
   ·simp at hm
 | iop =>
   simp only[CL] at hm
   split at hm
   ·simp at hm
   rename_i k pl root hptr
   obtain ⟨rfl,hk,hin,hseen,p,cs,d,hroot,vs0,base0,el,rv,b,i,h1,h2,h3⟩:=Mm h hro hptr
   split at hm
   ·simp at hm
   rename_i hcond
   simp only[Bool.or_eq_true,not_or,Bool.not_eq_true,Bool.not_eq_eq_eq_not,bne_eq_false_iff_eq] at hcond
   obtain ⟨⟨⟨hpin,hpath⟩,he⟩,hpos⟩:=hcond
   simp only[hroot] at hm
   split at hm
   ·simp at hm
   rename_i v hv
   split at hm
   ·rename_i hnl
    simp only[zS,zP] at hm
    obtain ⟨rfl,rfl⟩:=hm
    have hpos:0<pl.n:=by
     rcases Nat.eq_zero_or_pos pl.n with h | h
     ·simp[h] at hpos
     ·exact h
    have hpath:pl.path=[]:=by simpa using hpath
    rw[hpath] at h2
    simp only[A8,zS,zP] at h2
    obtain ⟨rfl,rfl,rfl⟩:=h2
    obtain ⟨fm,fr,hR1,hO⟩:=QR h hk hroot hpath hpos (by simpa using hpin) hv hnl h1 h3
    exact ⟨k,pl,fm,fr,rfl,hO,fun az xs fs ha => .iop (toFz (hz k (by simp)) hO.sub hR1) ha⟩
   ·simp at hm
theorem Cg {gm:Option Nat} (h:BY C w a σ Lt cv fp) (hs:QF C σ Lt gm Fz'):∀ {ms:List BX} {tys:List Nat} {rs:List Ro} {xs:List Value} {az:List Am} {ks:List (Nat × AO)},Pb C w a σ Lt cv rs xs →
  BG C.E gm ms tys rs=some (az,ks)→(∀ k∈ks.map (·.1),∀ y∈fp k,¬ Fz' y.b) →
  ((∀ k∈CA ms rs,∀ y∈fp k,Fz' y.b)∨BB C.E ms tys rs=true) →
  ∃ mfp FR,Bz w Fz' az xs mfp∧FP C w σ cv fp az xs ks mfp FR
 | [],tys,rs,xs,az,ks,hr,hm,_,_=>by
   cases tys <;>cases rs <;>simp[BG] at hm
   obtain ⟨rfl,rfl⟩:=hm
   cases hr
   exact ⟨[],[],.nil,.nil⟩
 | m::ms,[],rs,xs,az,ks,hr,hm,_,_=>by simp[BG] at hm
 | m::ms,ty::tys,[],xs,az,ks,hr,hm,_,_=>by simp[BG] at hm
 | m::ms,ty::tys,r::rs,xs,az,ks,hr,hm,hz,hv=>by
   cases hr with
   | @cons _ x _ xs hro hrs =>
     simp only[BG] at hm
     split at hm
     ·simp at hm
     rename_i arg k1 hm1
     split at hm
     ·simp at hm
     rename_i as' k2 hm2
     simp only[zS,zP] at hm
     obtain ⟨rfl,rfl⟩:=hm
     have hz1:∀ k∈k1.map (·.1),∀ y∈fp k,¬ Fz' y.b:=fun k hk=>hz k (by rw[map_append,mem_append];exact .inl hk)
     have hz2:∀ k∈k2.map (·.1),∀ y∈fp k,¬ Fz' y.b:=fun k hk=>hz k (by rw[map_append,mem_append];exact .inr hk)
     have hv2:(∀ k∈CA ms rs,∀ y∈fp k,Fz' y.b)∨BB C.E ms tys rs=true:=by
      rcases hv with hv | hv
      ·refine .inl fun k hk=>hv k ?_
       cases m <;>simp[CA,hk]
      ·refine .inr ?_
       cases m <;>simp only[BB,zB] at hv
       ·exact hv.2
       ·exact hv
       ·exact hv
     obtain ⟨mfp,FR,hA,hO⟩:=Cg h hs hrs hm2 hz2 hv2
     cases hm0:Gf m with
     | true =>
       cases m <;>simp[Gf] at hm0
       obtain ⟨rfl,v,vs,rfl,c1,c2⟩:=Na h hro hm1 hs (by
        rcases hv with hv | hv
        ·exact .inl fun k hk=>hv k (by simp[CA,hk])
        ·refine .inr ?_
         simp only[BB,zB] at hv
         split at hv
         ·rename_i v hv'
          simp only[zB] at hv
          exact ⟨v,hv',hv.1.1⟩
         ·simp at hv)
       exact ⟨mfp,FR,.val c1 c2 hA,.val hO⟩
     | false =>
       obtain ⟨k,pl,fm,fr,rfl,hO1,hA1⟩:=MM h hm0 hro hm1 hs.1 hz1
       exact ⟨fm++mfp,fr++FR,hA1 _ _ _ hA,.turn hO1 hO⟩
end
section
variable {C:BU} {w w':World} {a a':Act} {σ:AS} {Lt Lt':Nat→Nat→Prop} {cv cv':Nat→Value} {fp fpU:Nat→Fp} {g g':Nat} {env':List (Nat × AA)} {o:Oper} {Fz Fz':Nat→Prop}
theorem FP.facts (h:BY C w a σ Lt cv fp) {az xs ks mfp FR} (hO:FP C w σ cv fp az xs ks mfp FR) (hn:(ks.map (·.1)).Nodup) :
  ((mfp++FR).map Fe.b).Nodup∧(∀ y∈mfp,∃ k∈ks.map (·.1),∃ z∈fp k,z.b=y.b∧z.lo≤y.lo∧y.t≤z.t)∧(∀ y∈FR,∃ k∈ks.map (·.1),y∈fp k)∧∀ k∈ks.map (·.1),k<1000000:=by
 induction hO with
 | nil=>simp
 | val r ih=>exact ih hn
 | @turn k pl arg x fm f0 az xs ks m fr hO r ih =>
   simp only[map_cons,nodup_cons] at hn
   obtain ⟨i1,i2,i3,i4⟩:=ih hn.2
   have hown:∀ y∈fm++f0,∃ z∈fp k,z.b=y.b:=by
    intro y hy
    rw[mem_append] at hy
    rcases hy with hy | hy
    ·obtain ⟨z,hz,e,-⟩:=hO.sub y hy;exact ⟨z,hz,e⟩
    ·exact ⟨y,hO.rest y hy,rfl⟩
   have hoth:∀ y∈m++fr,∃ k'∈ks.map (·.1),∃ z∈fp k',z.b=y.b:=by
    intro y hy
    rw[mem_append] at hy
    rcases hy with hy | hy
    ·obtain ⟨k',hk',z,hz,e,-⟩:=i2 y hy;exact ⟨k',hk',z,hz,e⟩
    ·obtain ⟨k',hk',hz⟩:=i3 y hy;exact ⟨k',hk',y,hz,rfl⟩
   refine ⟨?_,fun y hy => ?_,fun y hy => ?_,fun k' hk' => ?_⟩
   ·have hp:(((fm++m)++(f0++fr)).map Fe.b).Perm (((fm++f0)++(m++fr)).map Fe.b):=by
     refine List.Perm.map _ ?_
     rw[perm_iff_count];intro z;simp only[count_append];omega
    rw[hp.nodup_iff,map_append,nodup_append]
    refine ⟨hO.nodup,i1,fun b hb b' hb' e => ?_⟩
    obtain ⟨y,hy,rfl⟩:=mem_map.1 hb
    obtain ⟨y',hy',rfl⟩:=mem_map.1 hb'
    obtain ⟨z,hz,e1⟩:=hown y hy
    obtain ⟨k',hk',z',hz',e2⟩:=hoth y' hy'
    exact h.disj k k' (fun e=>hn.1 (e ▸ hk')) z hz z' hz' (e1.trans (e.trans e2.symm))
   ·rw[mem_append] at hy
    rcases hy with hy | hy
    ·exact ⟨k,by simp,hO.sub y hy⟩
    ·obtain ⟨k',hk',hz⟩:=i2 y hy
     exact ⟨k',mem_cons_of_mem _ hk',hz⟩
   ·rw[mem_append] at hy
    rcases hy with hy | hy
    ·exact ⟨k,by simp,hO.rest y hy⟩
    ·obtain ⟨k',hk',hz⟩:=i3 y hy
     exact ⟨k',mem_cons_of_mem _ hk',hz⟩
   ·simp only[map_cons,mem_cons] at hk'
    rcases hk' with rfl | hk'
    ·exact hO.small
    ·exact i4 k' hk'
theorem FP.close {W:Nat→Nat→Prop} (hx:Ab w w' W) (wF:∀ b j,C.Fz b→¬ W b j) {roots:Nat→AA} {Lt1:Nat→Nat→Prop} {g1:Nat} {fall:Fp} {az xs ks mfp FR} (hO:FP C w σ cv fp az xs ks mfp FR) :
  ∀ {outs:List (Option V)} {fo:Fp} {us:List (Nat × AA)},(ks.map (·.1)).Nodup→(∀ y∈FR,∀ j,¬ W y.b j)→(∀ y∈mfp,∀ j,W y.b j→y.lo≤j∧j<y.t) →
  (∀ k∈ks.map (·.1),roots k=AE σ.env k)→C2 w' Fz' Lt1 g1 az xs outs fo→(∀ y∈fo,y∈fall) →
  (∀ v∈outs.filterMap id,∀ vs f,(∀ y∈f,y∈fall)→R w' Fz' Lt1 g1 v.p v.cs vs f→R w' C.Fz noLt (σ.g+1) v.p v.cs vs f) →
  B6 roots az ks (outs.filterMap id)=some us →
  us.map (·.1)=ks.map (·.1)∧∃ fn:Nat→Fp,((ks.flatMap fun u=>fn u.1).map Fe.b).Perm ((fo++FR).map Fe.b) ∧
   ∀ k s,(k,s)∈us→(∀ y∈fn k,y∈fp k∨y∈fo)∧(∀ cv' env',cv' k=cv k→AR C w' noLt (σ.g+1) cv' env' k (fn k) s)∧s.looks=[]∧AI s∧AC w w' (cv k) (AE σ.env k) (cv k) s:=by
 induction hO with
 | nil =>
   intro outs fo us hn hR hM hro hout hall hconv hp
   cases hout
   simp only[List.filterMap_nil,B6,zS] at hp
   subst hp
   exact ⟨rfl,fun _=>[],by simp,by simp⟩
 | val r ih =>
   intro outs fo us hn hR hM hro hout hall hconv hp
   cases hout with
   | val hout =>
     exact ih hn hR hM hro hout hall (fun v hv=>hconv v (by simpa using hv)) (by simpa [B6] using hp)
 | @turn k pl arg x fm f0 az xs ks m fr hO r ih =>
   intro outs fo us hn hR hM hro hout hall hconv hp
   simp only[map_cons,nodup_cons] at hn
   have key:∀ (ov:V) (os:List (Option V)) (f fs:Fp),outs=some ov::os→fo=f++fs→SM w' C.Fz (σ.g+1) arg x ov f→C2 w' Fz' Lt1 g1 az xs os fs →
     us.map (·.1)=((k,pl)::ks).map (·.1)∧∃ fn:Nat→Fp,((((k,pl)::ks).flatMap fun u=>fn u.1).map Fe.b).Perm ((fo++(f0++fr)).map Fe.b) ∧
      ∀ k s,(k,s)∈us→(∀ y∈fn k,y∈fp k∨y∈fo)∧(∀ cv' env',cv' k=cv k→AR C w' noLt (σ.g+1) cv' env' k (fn k) s)∧s.looks=[]∧AI s∧AC w w' (cv k) (AE σ.env k) (cv k) s:=by
    rintro ov os f fs rfl rfl hOut hout'
    have hp':∃ s us',CC arg pl (roots k) ov=some s∧B6 roots az ks (os.filterMap id)=some us'∧us=(k,s)::us' :=by
     have hnv:=hO.notval
     cases hm:arg.m with
     | val=>exact absurd hm hnv
     | _ =>
       simp only[B6,List.filterMap_cons,id_eq,hm] at hp
       split at hp
       ·simp at hp
       rename_i s hs
       split at hp
       ·simp at hp
       rename_i us' hus'
       exact ⟨s,us',hs,hus',by simpa using hp.symm⟩
    obtain ⟨s,us',hs,hus',rfl⟩:=hp'
    rw[hro k (by simp)] at hs
    obtain ⟨F,c1,c2,c3,c4,c5,c6⟩:=hO.close w' W ov s f hx wF (fun y hy=>hR y (by simp[hy])) (fun y hy=>hM y (by simp[hy])) hOut hs
    obtain ⟨d1,fn,d2,d3⟩:=ih hn.2 (fun y hy=>hR y (by simp[hy])) (fun y hy=>hM y (by simp[hy])) (fun k' hk'=>hro k' (mem_cons_of_mem _ hk')) hout' (fun y hy=>hall y (by simp[hy]))
     (fun v hv=>hconv v (by show v∈ov::os.filterMap id;exact mem_cons_of_mem _ hv)) hus'
    refine ⟨by simp[d1],fun j=>if j=k then F else fn j,?_,fun k' s' hm => ?_⟩
    ·have e:(ks.flatMap fun u=>if u.1=k then F else fn u.1)=ks.flatMap fun u=>fn u.1:=by
      rw[flatMap_def,flatMap_def]
      congr 1
      refine map_congr_left fun u hu => ?_
      rw[if_neg]
      rintro rfl
      exact hn.1 (mem_map.2 ⟨u,hu,rfl⟩)
     simp only[flatMap_cons,if_true,e,map_append]
     have:(((f++fs)++(f0++fr)).map Fe.b).Perm (((f++f0)++(fs++fr)).map Fe.b):=by
      refine List.Perm.map _ ?_
      rw[perm_iff_count];intro z;simp only[count_append];omega
     simp only[map_append] at this c1 d2
     exact (c1.append d2).trans this.symm
    ·rw[mem_cons] at hm
     rcases hm with e | hm
     ·obtain ⟨rfl,rfl⟩:k'=k∧s'=s:=by simpa using e
      simp only[if_true]
      refine ⟨fun y hy => ?_,c3,c4,c5,c6⟩
      rcases c2 y hy with h | h
      ·exact .inl h
      ·exact .inr (by simp[h])
     ·have hne:k'≠k:=by
       rintro rfl
       apply hn.1
       rw[← d1]
       exact mem_map.2 ⟨_,hm,rfl⟩
      simp only[if_neg hne]
      obtain ⟨e1,e2⟩:=d3 k' s' hm
      refine ⟨fun y hy => ?_,e2⟩
      rcases e1 y hy with h | h
      ·exact .inl h
      ·exact .inr (by simp[h])
   cases hout with
   | val hout=>exact absurd rfl hO.notval
   | @io v _ vs f _ _ fs ov os hc hRo hout' =>
     refine key ov os f fs rfl rfl ⟨vs,hc,?_⟩ hout'
     exact hconv ov (by simp) vs f (fun y hy=>hall y (by simp[hy])) hRo
   | @iop v p cs _ f _ _ fs os hRo hout' =>
     refine key _ os f fs rfl rfl ?_ hout'
     exact hconv ⟨false,[.rf .own p],[.ref cs]⟩ (by simp) [x] f (fun y hy=>hall y (by simp[hy])) hRo
theorem Dy.length {rs xs fs} {L:Nat→Nat→Prop} (h:Dy w Fz L g rs xs fs):xs.length=rs.length∧fs.length=rs.length:=by
 induction h with
 | nil=>simp
 | cons _ _ _ ih=>simp[ih]
theorem Dy.at {rs xs fs} {L:Nat→Nat→Prop} (h:Dy w Fz L g rs xs fs):∀ {i:Nat} {v:V},rs[i]?=some v→∃ x vs f,xs[i]?=some x∧fs[i]?=some f∧AD v.agg x vs∧R w Fz L g v.p v.cs vs f:=by
 induction h with
 | nil=>intro i v h;simp at h
 | @cons v x vs f rs xs fs hc hR _ ih =>
   intro i v' hv
   cases i with
   | zero =>
     simp only[List.getElem?_cons_zero,zS] at hv
     subst hv
     exact ⟨x,vs,f,rfl,rfl,hc,hR⟩
   | succ i =>
     simp only[List.getElem?_cons_succ] at hv ⊢
     exact ih hv
theorem Fm {v:V} {x:Value} {vs:List Value} {f:Fp} {L:Nat→Nat→Prop} (hc:AD v.agg x vs) (hR:R w' C.Fz L g' v.p v.cs vs f) :
  (B4 v).looks=[]∧(B4 v).root≠none∧∀ (cv':Nat→Value) env' k,cv' k=x→AR C w' L g' cv' env' k f (B4 v):=by
 unfold B4
 cases ho:Js v with
 | none=>exact ⟨rfl,by simp[AA.root],fun cv' env' k e=>⟨vs,by rw[e];exact hc,hR,fun h=>absurd rfl h⟩⟩
 | some pc =>
   obtain ⟨p,cs⟩:=pc
   unfold Js at ho
   split at ho
   ·simp only[zS,zP] at ho
    obtain ⟨rfl,rfl⟩:=ho
    have:=Aa hc
    subst this
    exact ⟨rfl,by simp[AA.root],fun cv' env' k e=>⟨by rw[e];exact hR,fun h=>absurd rfl h⟩⟩
   ·simp at ho
theorem EM {fs:List Fp} (h:(fs.flatten.map Fe.b).Nodup) {i j:Nat} {f f':Fp} (hi:fs[i]?=some f) (hj:fs[j]?=some f') (hij:i≠j):∀ x∈f,∀ y∈f',x.b≠y.b:=by
 have key:∀ {fs:List Fp},(fs.flatten.map Fe.b).Nodup→∀ {i j:Nat} {f f':Fp},fs[i]?=some f→fs[j]?=some f'→i<j→∀ x∈f,∀ y∈f',x.b≠y.b:=by
  intro fs
  induction fs with
  | nil=>intro _ i j f f' hi;simp at hi
  | cons f0 fs ih =>
    intro h i j f f' hi hj hij
    simp only[flatten_cons,map_append,nodup_append] at h
    cases i with
    | zero =>
      simp only[List.getElem?_cons_zero,zS] at hi
      subst hi
      obtain ⟨j,rfl⟩:∃ j',j=j'+1:=⟨j - 1,by omega⟩
      simp only[List.getElem?_cons_succ] at hj
      intro x hx y hy
      exact h.2.2 _ (mem_map.2 ⟨x,hx,rfl⟩) _ (mem_map.2 ⟨y,mem_flatten.2 ⟨f',List.mem_of_getElem? hj,hy⟩,rfl⟩)
    | succ i =>
      obtain ⟨j,rfl⟩:∃ j',j=j'+1:=⟨j - 1,by omega⟩
      simp only[List.getElem?_cons_succ] at hi hj
      exact ih h.2.1 hi hj (by omega)
 rcases Nat.lt_or_gt_of_ne hij with h1 | h1
 ·exact key h hi hj h1
 ·intro x hx y hy e
  exact key h hj hi h1 y hy x hx e.symm
theorem ED {fs:List Fp} (h:(fs.flatten.map Fe.b).Nodup) {i:Nat} {f:Fp} (hi:fs[i]?=some f):(f.map Fe.b).Nodup:=by
 induction fs generalizing i with
 | nil=>simp at hi
 | cons f0 fs ih =>
   simp only[flatten_cons,map_append,nodup_append] at h
   cases i with
   | zero =>
     simp only[List.getElem?_cons_zero,zS] at hi
     subst hi;exact h.1
   | succ i=>exact ih h.2.1 (by simpa using hi)
theorem MR {L:Nat→Nat→Prop} {rs:List V} {v:Value} {fs:List Fp} {d:Nat} (hd:o.dst=some d) (hd0:d<1000000) (hR:NQ w' C.Fz L g' rs v fs) (hn:(fs.flatten.map Fe.b).Nodup) :
  ∃ (fn:Nat→Fp) (val:Nat→Value),val d=v∧(∀ k∈(AW o rs).map (·.1),k=d∨∃ i,i<16∧k=AF d i)∧d∈(AW o rs).map (·.1) ∧
   (∀ k s,(k,s)∈AW o rs→s.looks=[]∧(∀ (cv':Nat→Value) env',(∀ j∈(AW o rs).map (·.1),cv' j=val j)→AR C w' L g' cv' env' k (fn k) s)∧(∀ y∈fn k,y∈fs.flatten)∧((fn k).map Fe.b).Nodup ∧
     (s.root=none→AI s)) ∧
   ∀ j∈(AW o rs).map (·.1),∀ k∈(AW o rs).map (·.1),j≠k→∀ x∈fn j,∀ y∈fn k,x.b≠y.b:=by
 obtain ⟨xs,hRs,hv⟩:=hR
 obtain ⟨hl1,hl2⟩:=hRs.length
 have hgone:∀ rs:List V,AW o rs=[(d,.gone)]→∃ (fn:Nat→Fp) (val:Nat→Value),val d=v∧(∀ k∈(AW o rs).map (·.1),k=d∨∃ i,i<16∧k=AF d i)∧d∈(AW o rs).map (·.1) ∧
   (∀ k s,(k,s)∈AW o rs→s.looks=[]∧(∀ (cv':Nat→Value) env',(∀ j∈(AW o rs).map (·.1),cv' j=val j)→AR C w' L g' cv' env' k (fn k) s)∧(∀ y∈fn k,y∈fs.flatten)∧((fn k).map Fe.b).Nodup ∧
     (s.root=none→AI s)) ∧
   ∀ j∈(AW o rs).map (·.1),∀ k∈(AW o rs).map (·.1),j≠k→∀ x∈fn j,∀ y∈fn k,x.b≠y.b:=by
  intro rs e
  rw[e]
  refine ⟨fun _=>[],fun _=>v,rfl,by simp,by simp,fun k s hm => ?_,by simp⟩
  obtain ⟨rfl,rfl⟩:k=d∧s = .gone:=by simpa using hm
  exact ⟨rfl,fun _ _ _=>rfl,by simp,by simp,fun _=>trivial⟩
 have htup:∀ rs:List V,Dy w' C.Fz L g' rs xs fs→rs.length<16→v = .tuple xs.toArray→AW o rs=(d,.tup rs.length)::CH d 0 (rs.map B4) →
   ∃ (fn:Nat→Fp) (val:Nat→Value),val d=v∧(∀ k∈(AW o rs).map (·.1),k=d∨∃ i,i<16∧k=AF d i)∧d∈(AW o rs).map (·.1) ∧
   (∀ k s,(k,s)∈AW o rs→s.looks=[]∧(∀ (cv':Nat→Value) env',(∀ j∈(AW o rs).map (·.1),cv' j=val j)→AR C w' L g' cv' env' k (fn k) s)∧(∀ y∈fn k,y∈fs.flatten)∧((fn k).map Fe.b).Nodup ∧
     (s.root=none→AI s)) ∧
   ∀ j∈(AW o rs).map (·.1),∀ k∈(AW o rs).map (·.1),j≠k→∀ x∈fn j,∀ y∈fn k,x.b≠y.b:=by
  intro rs hRs hlt hv e
  obtain ⟨hl1,hl2⟩:=hRs.length
  rw[e]
  have hsub:∀ i,AF d i - AF d 0=i:=fun i=>by unfold AF;omega
  have hvd:∀ i,AF d i≠d:=fun i=>by unfold AF;omega
  refine ⟨fun k=>if k=d then [] else fs.getD (k - AF d 0) [],fun k=>if k=d then v else xs.getD (k - AF d 0) undef,by simp,fun k hk => ?_,by simp,fun k s hm => ?_,fun j hj k hk hjk => ?_⟩
  ·simp only[map_cons,mem_cons] at hk
   rcases hk with rfl | hk
   ·exact .inl rfl
   ·obtain ⟨i,hi,rfl⟩:=A5.1 hk
    refine .inr ⟨i,by simpa using Nat.lt_trans (by simpa using hi) hlt,by simp⟩
  ·rw[mem_cons] at hm
   rcases hm with e1 | hm
   ·obtain ⟨rfl,rfl⟩:k=d∧s = .tup rs.length:=by simpa using e1
    refine ⟨rfl,fun cv' env' hcv=>⟨by simp,xs.toArray,?_,by simp[hl1],by omega,fun i hi => ?_⟩,by simp,by simp,fun _=>trivial⟩
    ·rw[hcv k (by simp)];simpa using hv
    ·have:=hcv (AF k i) (by
      simp only[map_cons,mem_cons]
      exact .inr (A5.2 ⟨i,by simpa using hi,by simp⟩))
     have hi':i<xs.length:=by omega
     rw[this]
     simp[hvd i,hsub,hi']
   ·obtain ⟨i,rfl,hi⟩:=Ep.1 hm
    rw[List.getElem?_map] at hi
    cases hv':rs[i]? with
    | none=>simp[hv'] at hi
    | some u =>
      simp only[hv',Option.map_some,zS] at hi
      subst hi
      obtain ⟨x,vs,f,h1,h2,h3,h4⟩:=hRs.at hv'
      simp only[Nat.zero_add] at hm ⊢
      simp only[if_neg (hvd i),hsub]
      have hf:fs.getD i []=f:=by rw[List.getD_eq_getElem?_getD,h2];rfl
      rw[hf]
      obtain ⟨k1,k2,k3⟩:=Fm h3 h4
      refine ⟨k1,fun cv' env' hcv=>k3 cv' env' _ ?_,fun y hy=>mem_flatten.2 ⟨f,List.mem_of_getElem? h2,hy⟩,ED hn h2,fun h=>absurd h k2⟩
      have:=hcv (AF d i) (mem_map.2 ⟨_,mem_cons_of_mem _ hm,rfl⟩)
      rw[this]
      simp only[if_neg (hvd i),hsub]
      rw[List.getD_eq_getElem?_getD,h1];rfl
  ·intro x hx y hy
   simp only[map_cons,mem_cons] at hj hk
   rcases hj with rfl | hj
   ·simp at hx
   ·obtain ⟨i,hi,rfl⟩:=A5.1 hj
    rcases hk with rfl | hk
    ·simp at hy
    ·obtain ⟨i',hi',rfl⟩:=A5.1 hk
     simp only[Nat.zero_add,if_neg (hvd _),hsub] at hx hy hjk
     have hii:i≠i' :=fun e=>hjk (by rw[e])
     rw[List.getD_eq_getElem?_getD] at hx hy
     cases h1:fs[i]? with
     | none=>simp[h1] at hx
     | some f =>
       cases h2:fs[i']? with
       | none=>simp[h2] at hy
       | some f' =>
         simp only[h1,Option.getD_some] at hx
         simp only[h2,Option.getD_some] at hy
         exact EM hn h1 h2 hii x hx y hy
 match rs,hRs,hv with
 | [u],hRs,hv =>
   have e:AW o [u]=[(d,B4 u)]:=by simp[AW,hd]
   cases hRs with
   | @cons _ x vs f _ xs' fs' hc hR hr =>
     cases hr
     simp only[List.cons.injEq,and_true] at hv
     subst hv
     rw[e]
     obtain ⟨k1,k2,k3⟩:=Fm hc hR
     refine ⟨fun _=>f,fun _=>x,rfl,by simp,by simp,fun k s hm => ?_,by simp +contextual⟩
     obtain ⟨rfl,rfl⟩:k=d∧s=B4 u:=by simpa using hm
     exact ⟨k1,fun cv' env' hcv=>k3 cv' env' _ (hcv k (by simp)),by simp,by simpa using hn,fun h=>absurd h k2⟩
 | [],hRs,hv=>exact htup [] hRs (by simp) hv (by simp[AW,hd])
 | u1::u2::us,hRs,hv =>
   by_cases hlt:(u1::u2::us).length<16
   ·refine htup _ hRs hlt hv ?_
    simp only[AW,hd]
    rw[if_neg]
    simp only[Nat.ble_eq];omega
   ·refine hgone _ ?_
    simp only[AW,hd]
    rw[if_pos]
    simp only[Nat.ble_eq];omega
end
section
variable {C:BU} {w w':World} {a a':Act} {σ:AS} {Lt Lt':Nat→Nat→Prop} {cv cv':Nat→Value} {fp fpU:Nat→Fp} {g g':Nat} {env':List (Nat × AA)} {o:Oper} {Fz Fz':Nat→Prop}
theorem Hn {rs:List V} (h:o.dst=none):AW o rs=[]:=by simp[AW,h]
theorem KP {us us':List (Nat × AA)} {k:Nat} {s:AA} (hn:(us.map (·.1)).Nodup) (h:(k,s)∈us):AE (us++us') k=s:=by
 induction us with
 | nil=>simp at h
 | cons u us ih =>
   obtain ⟨j,t⟩:=u
   simp only[map_cons,nodup_cons] at hn
   rw[mem_cons] at h
   simp only[cons_append,AE]
   rcases h with e | h
   ·simp only[zP] at e
    rw[if_pos e.1.symm];exact e.2.symm
   ·rw[if_neg,ih hn.2 h]
    rintro rfl
    exact hn.1 (mem_map.2 ⟨_,h,rfl⟩)
theorem M9 {W:Nat→Nat→Prop} {rs:List V} {v:Value} {frs:List Fp} {us:List (Nat × AA)} {fnU:Nat→Fp} {mfp fo:Fp} (H:DT C o w a σ Lt cv fp) (hna:AH o.op=false) (hx:Ab w w' W)
  (hg:(g'=σ.g∧Lt'=Lt∧∀ b j,Lt b j→¬ W b j)∨(σ.g<g'∧Lt'=noLt))
  (hks:∀ k∈us.map (·.1),k<1000000) (hnd:((AW o rs++us).map (·.1)).Nodup)
  (hWm:∀ b j,W b j→∃ y∈mfp,y.b=b∧y.lo≤j∧j<y.t)
  (hmfp:∀ y∈mfp,∃ k∈us.map (·.1),∃ z∈fp k,z.b=y.b∧z.lo≤y.lo∧y.t≤z.t)
  (hus:∀ k s,(k,s)∈us→(∀ y∈fnU k,y∈fp k∨y∈fo)∧(∀ cv' env',cv' k=cv k→AR C w' Lt' g' cv' env' k (fnU k) s)∧s.looks=[]∧AI s∧AC w w' (cv k) (AE σ.env k) (cv k) s)
  (hdisU:((us.map (·.1)).flatMap fnU++frs.flatten |>.map Fe.b).Nodup)
  (hfo:∀ x∈frs.flatten++fo,w.heap.size≤x.b∨∃ y∈mfp,y.b=x.b∧y.lo≤x.lo∧x.t≤y.t)
  (hres:NQ w' C.Fz Lt' g' rs v frs) (hfresh:Av o σ (AW o rs++us)) :
  St C w' (a.put o.dst v) ⟨Ae (AW o rs++us) σ.env,g'⟩:=by
 have hst:=H.st
 refine ⟨by rw[Act.put_defers'];exact H.df,?_⟩
 rw[map_append,nodup_append] at hdisU
 obtain ⟨hdU,hdR,hdUR⟩:=hdisU
 have hgg:(g'=σ.g∧(∀ b j,Lt b j→Lt' b j)∧(∀ b j,Lt b j→¬ W b j))∨(σ.g<g'∧Lt'=fun _ _=>False):=by
  rcases hg with ⟨h1,h2,h3⟩ | h
  ·exact .inl ⟨h1,fun _ _ h=>h2 ▸ h,h3⟩
  ·exact .inr h
 have hltw:∀ b j,Lt' b j→b<w'.heap.size:=fun b j hb=>by
  rcases hg with ⟨h1,rfl,h3⟩ | ⟨-,rfl⟩
  ·have:=hst.lt b j hb;have:=hx.size;omega
  ·exact hb.elim
 have hnl:∀ k,∀ x∈fp k,∀ j,x.l≤j→¬ Lt' x.b j:=fun k x hx' j hj hl=>by
  rcases hg with ⟨h1,rfl,h3⟩ | ⟨-,rfl⟩
  ·exact (hst.slots k).noLt hx' j hj hl
  ·exact hl.elim
 have hWok:∀ b j,b<w.heap.size→W b j→C.w0.heap.size≤b∨C.Mut b j:=by
  intro b j _ hw
  obtain ⟨y,hy,rfl,hlo,ht⟩:=hWm b j hw
  obtain ⟨k,_,z,hz,e1,e2,e3⟩:=hmfp y hy
  rcases hst.wok k z hz with h | ⟨y',hy',f1,f2,f3⟩
  ·exact .inl (e1 ▸ h)
  ·exact .inr ⟨y',hy',f1.trans e1,by omega,by omega⟩
 have hfreeW:∀ k,k ∉ us.map (·.1)→∀ x∈fp k,∀ j,¬ W x.b j:=by
  intro k hk x hx' j hw
  obtain ⟨y,hy,e,-⟩:=hWm _ _ hw
  obtain ⟨k',hk',z,hz,e',-⟩:=hmfp y hy
  exact hst.disj k k' (fun h=>hk (h ▸ hk')) x hx' z hz (e'.trans e).symm
 have hfnU:∀ k∈us.map (·.1),∀ x∈fnU k,w.heap.size≤x.b∨∃ k0∈us.map (·.1),∃ y∈fp k0,y.b=x.b∧y.lo≤x.lo∧x.t≤y.t:=by
  intro k hk x hx'
  obtain ⟨⟨k1,s⟩,hm,rfl⟩:=mem_map.1 hk
  rcases (hus _ _ hm).1 x hx' with h | h
  ·exact .inr ⟨_,hk,x,h,rfl,Nat.le_refl _,Nat.le_refl _⟩
  ·rcases hfo x (by simp[h]) with h | ⟨y,hy,e1,e2,e3⟩
   ·exact .inl h
   ·obtain ⟨k',hk',z,hz,f1,f2,f3⟩:=hmfp y hy
    exact .inr ⟨k',hk',z,hz,f1.trans e1,by omega,by omega⟩
 have hfrs:∀ x∈frs.flatten,w.heap.size≤x.b∨∃ k0∈us.map (·.1),∃ y∈fp k0,y.b=x.b∧y.lo≤x.lo∧x.t≤y.t:=by
  intro x hx'
  rcases hfo x (by rw[mem_append];exact .inl hx') with h | ⟨y,hy,e1,e2,e3⟩
  ·exact .inl h
  ·obtain ⟨k',hk',z,hz,f1,f2,f3⟩:=hmfp y hy
   exact .inr ⟨k',hk',z,hz,f1.trans e1,by omega,by omega⟩
 have hUnd:∀ k∈us.map (·.1),((fnU k).map Fe.b).Nodup:=by
  intro k hk
  rw[flatMap_def] at hdU
  obtain ⟨i,hi⟩:=List.mem_iff_getElem?.1 hk
  exact ED hdU (i:=i) (by rw[List.getElem?_map,hi];rfl)
 have hUap:∀ j∈us.map (·.1),∀ k∈us.map (·.1),j≠k→∀ x∈fnU j,∀ y∈fnU k,x.b≠y.b:=by
  intro j hj k hk hjk
  rw[flatMap_def] at hdU
  obtain ⟨i,hi⟩:=List.mem_iff_getElem?.1 hj
  obtain ⟨i',hi'⟩:=List.mem_iff_getElem?.1 hk
  refine EM hdU (i:=i) (j:=i') (by rw[List.getElem?_map,hi];rfl) (by rw[List.getElem?_map,hi'];rfl) ?_
  rintro rfl
  rw[hi] at hi'
  exact hjk (Option.some.inj hi')
 have hRU:∀ k∈us.map (·.1),∀ x∈fnU k,∀ y∈frs.flatten,x.b≠y.b:=by
  intro k hk x hx' y hy
  exact hdUR _ (mem_map.2 ⟨x,List.mem_flatMap.2 ⟨k,hk,hx'⟩,rfl⟩) _ (mem_map.2 ⟨y,hy,rfl⟩)
 cases hdst:o.dst with
 | none =>
   rw[Hn hdst] at hnd ⊢
   simp only[nil_append,Act.put] at hnd ⊢
   obtain ⟨fp',h'⟩:=hst.many (W:=W) (w' :=w') (g' :=g') (Lt' :=Lt') (a' :=a) us cv fnU hx hWok hgg hnd
    (fun k hk=>by rw[← hst.tmps k hk];split <;>rfl) hst.size
    (fun k hk=>⟨fun _ _ _ _ _ _=>rfl,fun x hx'=>⟨fun j _ _=>hfreeW k hk x hx' j,hnl k x hx'⟩⟩)
    (fun k s hm=>by
      have hk:k∈us.map (·.1):=mem_map.2 ⟨_,hm,rfl⟩
      obtain ⟨u1,u2,u3,u4,u5⟩:=hus k s hm
      exact ⟨u2 _ _ (by simp),hUnd k hk,by rw[u3];simp,fun _ _=>⟨u5,u4⟩,hfnU k hk⟩)
    hUap hltw
   exact ⟨Lt',_,fp',h'⟩
 | some d =>
   have hd0:d<1000000:=Nat.lt_of_lt_of_le (H.dst d hdst) hst.size
   obtain ⟨fnR,valR,r1,r2,r3,r4,r5⟩:=MR hdst hd0 hres hdR
   have hnd' :=hnd
   rw[map_append,nodup_append] at hnd'
   obtain ⟨hndR,hndU,hndRU⟩:=hnd'
   have hnotU:∀ k∈(AW o rs).map (·.1),k ∉ us.map (·.1):=fun k hk hk'=>hndRU k hk k hk' rfl
   obtain ⟨fp',h'⟩:=hst.many (W:=W) (w' :=w') (g' :=g') (Lt' :=Lt') (a' :=a.put (some d) v) (AW o rs++us) (fun k=>if k∈us.map (·.1) then cv k else valR k) (fun k=>if k∈us.map (·.1) then fnU k else fnR k) hx hWok hgg hnd
    (fun k hk=>by
      rw[EX a d k v (H.dst d hdst),← hst.tmps k hk,map_append]
      by_cases h1:k∈us.map (·.1)
      ·have h2:k≠d:=fun e=>hnotU d r3 (e ▸ h1)
       rw[if_pos (mem_append.2 (.inr h1)),if_pos h1,if_neg h2]
      ·by_cases h2:k∈(AW o rs).map (·.1)
       ·rw[if_pos (mem_append.2 (.inl h2)),if_neg h1]
        rcases r2 k h2 with rfl | ⟨i,-,rfl⟩
        ·rw[if_pos rfl,r1]
        ·have:=BN d i;omega
       ·have h3:k≠d:=fun e=>h2 (e ▸ r3)
        rw[if_neg (fun h=>(mem_append.1 h).elim h2 h1),if_neg h3])
    (by rw[EW];exact hst.size)
    (fun k hk=>by
      rw[map_append,mem_append,not_or] at hk
      refine ⟨fun n hn hn16 i hi hm => ?_,fun x hx'=>⟨fun j _ _=>hfreeW k hk.2 x hx' j,hnl k x hx'⟩⟩
      rw[map_append,mem_append] at hm
      rcases hm with hm | hm
      ·rcases r2 _ hm with e | ⟨i',hi',e⟩
       ·exact absurd hd0 (by rw[← e];exact Nat.not_lt.2 (BN k i))
       ·obtain ⟨e1,-⟩:=EV (Nat.lt_of_lt_of_le hi hn16) hi' e
        exact absurd r3 (e1 ▸ hk.1)
      ·have:=hks _ hm;have:=BN k i;omega)
    (fun k s hm=>by
      rw[mem_append] at hm
      have hkeys:∀ j,j∈List.map (fun x=>x.fst) (AW o rs++us)↔j∈(AW o rs).map (·.1)∨j∈us.map (·.1):=fun j=>by rw[map_append,mem_append]
      rcases hm with hm | hm
      ·have hk:k∈(AW o rs).map (·.1):=mem_map.2 ⟨_,hm,rfl⟩
       have hkU:=hnotU k hk
       obtain ⟨u1,u2,u3,u4,u5⟩:=r4 k s hm
       simp only[if_neg hkU]
       refine ⟨u2 _ _ fun j hj => ?_,u4,by rw[u1];simp,fun hk0 hs => ?_,fun x hx' => ?_⟩
       ·rw[if_pos ((hkeys j).2 (.inl hj)),if_neg (hnotU j hj)]
       ·have hkd:k=d:=by
         rcases r2 k hk with e | ⟨i,-,e⟩
         ·exact e
         ·have:=BN d i;omega
        subst hkd
        obtain ⟨-,h2⟩:=B9 (hfresh k hdst) hdst (KP hndR hm)
        rw[hna] at h2
        simp only[Bool.false_eq_true,false_or] at h2
        rcases h2 with h2 | h2
        ·exact absurd hs (Aq h2)
        ·exact ⟨AC.noRoot h2,u5 h2⟩
       ·rcases hfrs x (u3 x hx') with h | ⟨k0,hk0,h⟩
        ·exact .inl h
        ·exact .inr ⟨k0,(hkeys k0).2 (.inr hk0),h⟩
      ·have hk:k∈us.map (·.1):=mem_map.2 ⟨_,hm,rfl⟩
       obtain ⟨u1,u2,u3,u4,u5⟩:=hus k s hm
       simp only[if_pos hk]
       refine ⟨u2 _ _ ?_,hUnd k hk,by rw[u3];simp,fun _ _=>⟨u5,u4⟩,fun x hx' => ?_⟩
       ·rw[if_pos ((hkeys k).2 (.inr hk)),if_pos hk]
       ·rcases hfnU k hk x hx' with h | ⟨k0,hk0,h⟩
        ·exact .inl h
        ·exact .inr ⟨k0,(hkeys k0).2 (.inr hk0),h⟩)
    (fun j hj k hk hjk x hx' y hy=>by
      rw[map_append,mem_append] at hj hk
      by_cases h1:j∈us.map (·.1) <;>by_cases h2:k∈us.map (·.1)
      ·rw[if_pos h1] at hx';rw[if_pos h2] at hy
       exact hUap j h1 k h2 hjk x hx' y hy
      ·rw[if_pos h1] at hx';rw[if_neg h2] at hy
       obtain ⟨⟨_,s⟩,hm,rfl⟩:=mem_map.1 (hk.resolve_right h2)
       exact hRU j h1 x hx' y ((r4 _ _ hm).2.2.1 y hy)
      ·rw[if_neg h1] at hx';rw[if_pos h2] at hy
       obtain ⟨⟨_,s⟩,hm,rfl⟩:=mem_map.1 (hj.resolve_right h1)
       exact fun e=>hRU k h2 y hy x ((r4 _ _ hm).2.2.1 x hx') e.symm
      ·rw[if_neg h1] at hx';rw[if_neg h2] at hy
       exact r5 j (hj.resolve_right h1) k (hk.resolve_right h2) hjk x hx' y hy)
    hltw
   exact ⟨Lt',_,fp',h'⟩
end
def Be:Ro→Option Nat
 | .slot _ (.view k _) _=>some k
 | .slot _ (.ptr k _) _=>some k
 | .slot t _ _=>some t
 | _=>none
theorem PJ {E:AX} {gm:Option Nat} {m:BX} {ty:Nat} {r:Ro} {arg:Am} {ks:List (Nat × AO)} (h:CL E gm m ty r=some (arg,ks)) :
  (Gf m=true→ks=[])∧∀ k∈ks.map (·.1),Be r=some k:=by
 cases m with
 | val =>
   have:ks=[]:=by
    simp only[CL] at h
    split at h
    ·simp only[zS,zP] at h;exact h.2.symm
    ·split at h
     ·split at h
      ·simp at h
      ·simp only[zS,zP] at h;exact h.2.symm
     ·split at h
      ·simp at h
      ·split at h
       ·simp at h
       ·split at h
        ·simp at h
        ·split at h
         ·simp at h
         ·simp only[zS,zP] at h;exact h.2.symm
   subst this
   exact ⟨fun _=>rfl,by simp⟩
 | io =>
   refine ⟨by simp[Gf],?_⟩
   simp only[CL] at h
   split at h
   ·simp at h
   rename_i k pl root hio
   split at h
   ·simp at h
   split at h
   ·simp at h
   split at h
   ·simp at h
   split at h
   ·simp only[zS,zP] at h
    obtain ⟨-,rfl⟩:=h
    simp only[map_cons,map_nil,mem_singleton,forall_eq]
    unfold Da at hio
    split at hio
    ·simp only[zS,zP] at hio
     obtain ⟨rfl,-⟩:=hio;rfl
    ·simp only[zS,zP] at hio
     obtain ⟨rfl,-⟩:=hio;rfl
    ·simp at hio
   ·simp at h
 | iop =>
   refine ⟨by simp[Gf],?_⟩
   simp only[CL] at h
   split at h
   ·simp at h
   rename_i k pl root hio
   split at h
   ·simp at h
   split at h
   ·simp at h
   split at h
   ·simp at h
   split at h
   ·simp only[zS,zP] at h
    obtain ⟨-,rfl⟩:=h
    simp only[map_cons,map_nil,mem_singleton,forall_eq]
    unfold A1 at hio
    split at hio
    ·split at hio
     ·simp at hio
     split at hio
     ·simp at hio
     simp only[zS,zP] at hio
     obtain ⟨rfl,-⟩:=hio;rfl
    ·simp only[zS,zP] at hio
     obtain ⟨rfl,-⟩:=hio;rfl
    ·simp at hio
   ·simp at h
theorem D7 {E:AX} {gm:Option Nat}:∀ {ms:List BX} {tys:List Nat} {rs:List Ro} {az:List Am} {ks:List (Nat × AO)},BG E gm ms tys rs=some (az,ks) →
  (ms.all Gf=true→ks=[])∧∀ k∈ks.map (·.1),∃ r∈rs,Be r=some k
 | [],tys,rs,az,ks,h=>by
   cases tys <;>cases rs <;>simp[BG] at h
   obtain ⟨rfl,rfl⟩:=h
   exact ⟨fun _=>rfl,by simp⟩
 | m::ms,[],rs,az,ks,h=>by simp[BG] at h
 | m::ms,ty::tys,[],az,ks,h=>by simp[BG] at h
 | m::ms,ty::tys,r::rs,az,ks,h=>by
   simp only[BG] at h
   split at h
   ·simp at h
   rename_i arg k1 h1
   split at h
   ·simp at h
   rename_i as' k2 h2
   simp only[zS,zP] at h
   obtain ⟨-,rfl⟩:=h
   obtain ⟨a1,a2⟩:=PJ h1
   obtain ⟨b1,b2⟩:=D7 h2
   refine ⟨fun hv => ?_,fun k hk => ?_⟩
   ·simp only[all_cons,zB] at hv
    rw[a1 hv.1,b1 hv.2];rfl
   ·rw[map_append,mem_append] at hk
    rcases hk with hk | hk
    ·exact ⟨r,by simp,a2 k hk⟩
    ·obtain ⟨r',hr',e⟩:=b2 k hk
     exact ⟨r',mem_cons_of_mem _ hr',e⟩
section
variable {C:BU} {w w':World} {a a':Act} {σ:AS} {Lt Lt':Nat→Nat→Prop} {cv cv':Nat→Value} {fp fpU:Nat→Fp} {g g':Nat} {env':List (Nat × AA)} {o:Oper} {Fz Fz':Nat→Prop}
theorem Mc {r:Ro} {rs:List Ro} {j:Nat} {x:Value} (hro:Sb C w a σ Lt cv r x) :
  (Be r=some j→BV (r::rs) j=AE σ.env j)∧(Be r≠some j→BV (r::rs) j=BV rs j):=by
 rcases hro with ⟨X,hX,rfl,rfl⟩ | ⟨t,k,pl,rfl,-⟩ | ⟨v,vs,rfl,-⟩
 ·cases X with
  | tmp t =>
    rw[AJ]
    cases hg:AE σ.env t with
    | view k pl =>
      simp only[Be,BV,zS,ne_eq]
      exact ⟨fun e=>by rw[if_pos e.symm,e],fun e=>by rw[if_neg (fun h=>e h.symm)]⟩
    | ptr k pl =>
      simp only[Be,BV,zS,ne_eq]
      exact ⟨fun e=>by rw[if_pos e.symm,e],fun e=>by rw[if_neg (fun h=>e h.symm)]⟩
    | clo f caps=>simp[Be,BV]
    | tup n=>simp[Be,BV]
    | _ =>
      simp only[Be,BV,zS,ne_eq]
      exact ⟨fun e=>by subst e;rw[if_pos rfl,hg],fun e=>by rw[if_neg (fun h=>e h.symm)]⟩
  | _=>simp[AB,Be,BV]
 ·simp only[Be,BV,zS,ne_eq]
  exact ⟨fun e=>by rw[if_pos e.symm,e],fun e=>by rw[if_neg (fun h=>e h.symm)]⟩
 ·simp[Be,BV]
theorem N0 {rs:List Ro} {xs:List Value} (h:Pb C w a σ Lt cv rs xs) {k:Nat} (hk:∃ r∈rs,Be r=some k):BV rs k=AE σ.env k:=by
 induction h with
 | nil=>obtain ⟨r,hr,-⟩:=hk;simp at hr
 | @cons r x rs xs hro t ih =>
   obtain ⟨h1,h2⟩:=Mc (rs:=rs) (j:=k) hro
   by_cases e:Be r=some k
   ·exact h1 e
   ·rw[h2 e]
    obtain ⟨r',hr',e'⟩:=hk
    rw[mem_cons] at hr'
    rcases hr' with rfl | hr'
    ·exact absurd e' e
    ·exact ih ⟨r',hr',e'⟩
theorem FP.nil_of {az xs mfp FR} (h:FP C w σ cv fp az xs [] mfp FR):mfp=[]∧FR=[]:=by
 generalize hk:([]:List (Nat × AO))=ks at h
 induction h with
 | nil=>exact ⟨rfl,rfl⟩
 | val r ih=>exact ih hk
 | turn h r ih=>simp at hk
theorem Jy {shr:Bool} {v:V} {vs:List Value} {f:Fp} {Lt1:Nat→Nat→Prop} {g1:Nat} (hR:R w' Fz' Lt1 g1 v.p v.cs vs f) (hok:(clean2s v.p||shr&&clean3s v.p)=true) (hshr:shr=true→Fz'=Fz)
  (hz:∀ y∈f,¬ Fz y.b) (hl:∀ y∈f,∀ j,¬ Lt' y.b j):R w' Fz Lt' g' v.p v.cs vs f:=by
 have h3:clean3s v.p=true:=by
  simp only[Bool.or_eq_true,zB] at hok
  rcases hok with h | h
  ·exact clean2s_clean3s h
  ·exact h.2
 have hR':R w' Fz Lt1 g1 v.p v.cs vs f:=by
  simp only[Bool.or_eq_true,zB] at hok
  rcases hok with h | h
  ·exact hR.anyFz h hz
  ·rw[hshr h.1] at hR;exact hR
 exact hR'.noLent (clean3s_noLents h3) fun y hy j _=>hl y hy j
theorem NQ.conv {shr:Bool} {rs:List V} {v:Value} {fs:List Fp} {Lt1:Nat→Nat→Prop} {g1:Nat} (hR:NQ w' Fz' Lt1 g1 rs v fs) (hok:FI shr rs=true) (hshr:shr=true→Fz'=Fz)
  (hz:∀ y∈fs.flatten,¬ Fz y.b) (hl:∀ y∈fs.flatten,∀ j,¬ Lt' y.b j):NQ w' Fz Lt' g' rs v fs:=by
 obtain ⟨xs,h1,h2⟩:=hR
 refine ⟨xs,?_,h2⟩
 clear h2
 unfold FI at hok
 induction h1 with
 | nil=>exact .nil
 | @cons v x vs f rs xs fs hc hR' r ih =>
   simp only[all_cons,zB] at hok
   exact .cons hc (Jy hR' hok.1 hshr (fun y hy=>hz y (by simp[hy])) (fun y hy=>hl y (by simp[hy])))
    (ih hok.2 (fun y hy=>hz y (by rw[flatten_cons,mem_append];exact .inr hy)) (fun y hy=>hl y (by rw[flatten_cons,mem_append];exact .inr hy)))
theorem BY.laidNow {Fz':Nat→Prop} (h:BY C w a σ Lt cv fp) (hF:∀ b,C.Fz b→Fz' b):Laid C.P C.E.laid w Fz' :=
 h.laid.keep h.ext (fun b j hb hm=>by obtain ⟨y,hy,e,-⟩:=hm;exact (h.fz b hb).2 y hy e) hF
theorem Gq {callF:Nat→List Am→Option By} {f:FuncId} {xs:List Value} {az:List Am} {r:By} {shr:Bool} (H:DT C o w a σ Lt cv fp) (hna:AH o.op=false)
  (hr:(execOp a.eval o).run C.P w=(callFunc f xs.toArray).run C.P w) (hfn:FnOk C.P C.E.laid callF f) (hcall:callF f az=some r) (hA:Bz w Fz' az xs [])
  (hF:∀ b,Fz' b→b<w.heap.size) (hsubF:∀ b,C.Fz b→Fz' b) (hok:FI shr r.rs=true) (hshr:shr=true→Fz'=C.Fz) (hfr:Av o σ (AW o r.rs)) :
  AN C o a w ⟨Ae (AW o r.rs) σ.env,σ.g⟩:=by
 refine AN.call hr (hfn az r hcall w Fz' xs [] hA (by simp) hF (H.st.laidNow hsubF)) fun v w' post => ?_
 obtain ⟨hx,Lt1,g1,fr,fo,hR,hO,hn,hnew⟩:=post
 have hst:=H.st
 have hnew':∀ y∈fr.flatten,w.heap.size≤y.b:=fun y hy=>by
  rcases hnew y (by simp only[mem_append];exact .inl hy) with h | ⟨z,hz,-⟩
  ·exact h
  ·simp at hz
 have hn':(fr.flatten.map Fe.b).Nodup:=by
  rw[map_append,nodup_append] at hn;exact hn.1
 have hres:=hR.conv (Fz:=C.Fz) (Lt' :=Lt) (g' :=σ.g) hok hshr
  (fun y hy hz=>by have:=(hst.fz _ hz).1;have:=hst.ext.size;have:=hnew' y hy;omega)
  (fun y hy j hl=>by have:=hst.lt _ _ hl;have:=hnew' y hy;omega)
 have hndR:((AW o r.rs++([]:List (Nat × AA))).map (·.1)).Nodup:=by
  rw[append_nil]
  cases hdst:o.dst with
  | none=>rw[Hn hdst];simp
  | some d =>
    have hd0:d<1000000:=Nat.lt_of_lt_of_le (H.dst d hdst) hst.size
    have htn:∀ l:List AA,(((d,AA.tup l.length)::CH d 0 l).map (·.1)).Nodup:=fun l=>by
     simp only[map_cons,nodup_cons]
     refine ⟨fun hm => ?_,DV⟩
     obtain ⟨j,-,e⟩:=A5.1 hm
     have:=BN d (0+j)
     rw[← e] at this
     exact absurd hd0 (Nat.not_lt.2 this)
    simp only[AW,hdst]
    split
    ·simp
    ·split
     ·simp
     ·have:=htn (r.rs.map B4)
      rw[length_map] at this
      exact this
 have:=M9 (W:=Mut []) (us:=[]) (fnU:=fun _=>[]) (mfp:=[]) (fo:=[]) (Lt' :=Lt) (g' :=σ.g) (v:=v) H hna hx (.inl ⟨rfl,rfl,by simp[Mut]⟩) (by simp) hndR (by simp[Mut]) (by simp) (by simp) (by simpa using hn')
  (fun x hx' => .inl (hnew' x (by simpa using hx'))) hres (by simpa using hfr)
 simpa using this
theorem H6 {callF:Nat→List Am→Option By} {f:FuncId} {tys:List Nat} {rs:List Ro} {xs:List Value} (H:DT C o w a σ Lt cv fp) (hna:AH o.op=false) (hros:Pb C w a σ Lt cv rs xs)
  (hr:(execOp a.eval o).run C.P w=(callFunc f xs.toArray).run C.P w) (hfn:FnOk C.P C.E.laid callF f) {out:A9} {u:Bool} (h:Co C.E callF o f tys rs σ.g=some (out,u)) (hfr:Av o σ out.ups) :
  AN C o a w ⟨Ae out.ups σ.env,out.g.getD σ.g⟩:=by
 have hst:=H.st
 have hFz0:∀ b,C.Fz b→b<w.heap.size:=fun b hb=>Nat.lt_of_lt_of_le (hst.fz b hb).1 hst.ext.size
 unfold Co at h
 split at h
 ·simp at h
 rename_i fd hfd
 split at h
 ·rename_i hall
  split at h
  ·
   split at h
   ·simp at h
   rename_i az ks hm
   split at h
   ·simp at h
   rename_i r hcall
   split at h
   ·rename_i hok
    simp only[zS,zP] at h
    obtain ⟨rfl,-⟩:=h
    obtain rfl:=(D7 hm).1 hall
    by_cases hshr:BB C.E (fd.modes rs.length) tys rs=true
    ·obtain ⟨mfp,FR,hA,hO⟩:=Cg (Fz' :=C.Fz) hst (gm:=none) ⟨fun _ h=>h,by simp⟩ hros hm (by simp) (.inr hshr)
     obtain ⟨rfl,rfl⟩:=hO.nil_of
     exact Gq H hna hr hfn hcall hA hFz0 (fun _ h=>h) hok (fun _=>rfl) hfr
    ·obtain ⟨mfp,FR,hA,hO⟩:=Cg (Fz' :=fun b=>C.Fz b∨∃ k,∃ x∈fp k,x.b=b) hst (gm:=none) ⟨fun _ h => .inl h,by simp⟩ hros hm (by simp) (.inl fun k _ y hy => .inr ⟨k,y,hy,rfl⟩)
     obtain ⟨rfl,rfl⟩:=hO.nil_of
     refine Gq H hna hr hfn hcall hA (fun b hb => ?_) (fun _ h => .inl h) hok (fun e=>absurd e hshr) hfr
     rcases hb with hb | ⟨k,x,hx,rfl⟩
     ·exact hFz0 b hb
     ·exact ((hst.slots k).inHeap hx).1
   ·simp at h
  ·split at h
   ·simp at h
   rename_i az ks hm
   split at h
   ·simp at h
   rename_i r hcall
   split at h
   ·rename_i hok
    simp only[zS,zP] at h
    obtain ⟨rfl,-⟩:=h
    obtain rfl:=(D7 hm).1 hall
    obtain ⟨mfp,FR,hA,hO⟩:=Cg (Fz' :=fun b=>C.Fz b∨(∃ k,∃ x∈fp k,x.b=b)∨∃ j,Lt b j) hst (gm:=some σ.g)
     ⟨fun _ h => .inl h,fun g e=>⟨(Option.some.inj e).symm,fun b j hb => .inr (.inr ⟨j,hb⟩)⟩⟩ hros hm (by simp) (.inl fun k _ y hy => .inr (.inl ⟨k,y,hy,rfl⟩))
    obtain ⟨rfl,rfl⟩:=hO.nil_of
    refine Gq H hna hr hfn hcall hA (fun b hb => ?_) (fun _ h => .inl h) hok (by simp) hfr
    rcases hb with hb | ⟨k,x,hx,rfl⟩ | ⟨j,hb⟩
    ·exact hFz0 b hb
    ·exact ((hst.slots k).inHeap hx).1
    ·exact hst.lt b j hb
   ·simp at h
 ·
  split at h
  ·simp at h
  rename_i az ks hm
  split at h
  ·rename_i hcond
   simp only[zB,Bool.not_eq_true',any_eq_false,beq_iff_eq,not_exists,not_and,any_eq_true] at hcond
   obtain ⟨hnk,hvk⟩:=hcond
   have hnk:=Az hnk
   split at h
   ·simp at h
   rename_i r hcall
   split at h
   ·rename_i hok
    simp only[zB] at hok
    obtain ⟨hok1,hok2⟩:=hok
    split at h
    ·simp at h
    rename_i us hpb
    split at h
    ·rename_i hnd
     simp only[zS,zP] at h
     obtain ⟨rfl,-⟩:=h
     have hnd:=Az hnd
     have hex:∃ Fz':Nat→Prop,(∀ b,C.Fz b→Fz' b)∧(BB C.E (fd.modes rs.length) tys rs=true→Fz'=C.Fz)∧(∀ b,Fz' b→b<w.heap.size) ∧
       (∀ k∈ks.map (·.1),∀ y∈fp k,¬ Fz' y.b)∧((∀ k∈CA (fd.modes rs.length) rs,∀ y∈fp k,Fz' y.b)∨BB C.E (fd.modes rs.length) tys rs=true):=by
      by_cases hshr:BB C.E (fd.modes rs.length) tys rs=true
      ·exact ⟨C.Fz,fun _ h=>h,fun _=>rfl,hFz0,fun k _ y hy=>((hst.slots k).inHeap hy).2.2.2,.inr hshr⟩
      ·refine ⟨fun b=>C.Fz b∨∃ k∈CA (fd.modes rs.length) rs,∃ x∈fp k,x.b=b,fun _ h => .inl h,fun e=>absurd e hshr,fun b hb => ?_,fun k hk y hy hb => ?_,.inl fun k hk y hy => .inr ⟨k,hk,y,hy,rfl⟩⟩
       ·rcases hb with hb | ⟨k,-,x,hx,rfl⟩
        ·exact hFz0 b hb
        ·exact ((hst.slots k).inHeap hx).1
       ·rcases hb with hb | ⟨k',hk',x,hx,e⟩
        ·exact ((hst.slots k).inHeap hy).2.2.2 hb
        ·refine hst.disj k k' ?_ y hy x hx e.symm
         rintro rfl
         exact hvk k hk' k hk rfl
     obtain ⟨Fz',f1,f2,f3,f4,f5⟩:=hex
     obtain ⟨mfp,FR,hA,hO⟩:=Cg (Fz' :=Fz') hst (gm:=none) ⟨f1,by simp⟩ hros hm f4 f5
     obtain ⟨o1,o2,o3,o4⟩:=hO.facts hst hnk
     have o1' :=o1
     rw[map_append,nodup_append] at o1'
     obtain ⟨n1,n2,n3⟩:=o1'
     refine AN.call hr (hfn az r hcall w Fz' xs mfp hA n1 f3 (hst.laidNow f1)) fun v w' post => ?_
     obtain ⟨hx,Lt1,g1,fr,fo,hR,hOut,hn,hnew⟩:=post
     have hmz:∀ y∈mfp,¬ C.Fz y.b:=fun y hy=>by
      obtain ⟨k,-,z,hz,e,-⟩:=o2 y hy
      rw[← e];exact ((hst.slots k).inHeap hz).2.2.2
     have hallz:∀ y∈fr.flatten++fo,¬ C.Fz y.b:=fun y hy hz=>by
      rcases hnew y hy with h | ⟨z,hz',e,-⟩
      ·have:=hFz0 _ hz;omega
      ·exact hmz z hz' (e ▸ hz)
     have hres:=hR.conv (Fz:=C.Fz) (Lt' :=noLt) (g' :=σ.g+1) hok1 f2 (fun y hy=>hallz y (by rw[mem_append];exact .inl hy)) (fun _ _ _ h=>h)
     obtain ⟨c1,fn,c2,c3⟩:=hO.close (W:=Mut mfp) (roots:=BV rs) (fall:=fo) hx (fun b j hb=>by
       rintro ⟨y,hy,e,-⟩
       exact hmz y hy (e ▸ hb)) hnk
      (fun y hy j hw=>by
        obtain ⟨z,hz,e,-⟩:=hw
        exact n3 _ (mem_map.2 ⟨z,hz,rfl⟩) _ (mem_map.2 ⟨y,hy,rfl⟩) e)
      (fun y hy j hw=>by
        obtain ⟨z,hz,e,h1,h2⟩:=hw
        obtain rfl:=Gw n1 hz hy e
        exact ⟨h1,h2⟩)
      (fun k hk=>N0 hros ((D7 hm).2 k hk)) hOut (fun _ h=>h)
      (fun u hu vs f hf hRu=>by
        unfold FI at hok2
        rw[all_eq_true] at hok2
        exact Jy hRu (hok2 u hu) f2 (fun y hy=>hallz y (by rw[mem_append];exact .inr (hf y hy))) (fun _ _ _ h=>h)) hpb
     refine M9 (W:=Mut mfp) (fnU:=fn) (mfp:=mfp) (fo:=fo) (Lt' :=noLt) (g' :=σ.g+1) H hna hx (.inr ⟨Nat.lt_succ_self _,rfl⟩) (by rw[c1];exact o4) hnd (fun b j hw=>hw) (by rw[c1];exact o2) c3 ?_ hnew hres hfr
     rw[c1]
     have e:(ks.map (·.1)).flatMap fn=ks.flatMap fun u=>fn u.1:=by rw[List.flatMap_map]
     rw[e,map_append,(c2.append_right _).nodup_iff,← map_append]
     have hp:(((fo++FR)++fr.flatten).map Fe.b).Perm (((fr.flatten++fo)++FR).map Fe.b):=by
      refine List.Perm.map _ ?_
      rw[perm_iff_count];intro z;simp only[count_append];omega
     rw[hp.nodup_iff,map_append,nodup_append]
     refine ⟨hn,n2,fun b hb b' hb' e => ?_⟩
     obtain ⟨x,hx',rfl⟩:=mem_map.1 hb
     obtain ⟨y,hy,rfl⟩:=mem_map.1 hb'
     obtain ⟨k,-,hyk⟩:=o3 y hy
     rcases hnew x hx' with h | ⟨z,hz,ez,-⟩
     ·have:=((hst.slots k).inHeap hyk).1;omega
     ·exact n3 _ (mem_map.2 ⟨z,hz,rfl⟩) _ (mem_map.2 ⟨y,hy,rfl⟩) (ez.trans e)
    ·simp at h
   ·simp at h
  ·simp at h
end
section
variable {C:BU} {w w':World} {a a':Act} {σ:AS} {Lt Lt':Nat→Nat→Prop} {cv cv':Nat→Value} {fp fpU:Nat→Fp} {g g':Nat} {env':List (Nat × AA)} {o:Oper} {Fz Fz':Nat→Prop}
theorem AN.of_none {out:A9} (h:out.g=none∧AN C o a w ⟨Ae out.ups σ.env,σ.g⟩):AN C o a w ⟨Ae out.ups σ.env,out.g.getD σ.g⟩:=by
 rw[h.1];exact h.2
theorem IK (H:DT C o w a σ Lt cv fp) {x:Operand} (hx:AT x) (hr:(execOp a.eval o).run C.P w = .ok (.value (a.eval x)) w) (hna:AH o.op=false)
  {out:A9} (h:BW C.E o (AB σ.env x)=some out) (hfr:Av o σ out.ups) :
  out.g=none∧AN C o a w ⟨Ae out.ups σ.env,σ.g⟩:=by
 by_cases ht:∃ t cs,AB σ.env x = .tup t cs
 ·obtain ⟨t,cs,ht⟩:=ht
  obtain rfl:x = .tmp t:=by
   cases x with
   | tmp t' =>
     rw[AJ] at ht
     cases hg:AE σ.env t' <;>simp[hg] at ht
     rw[ht.1]
   | _=>simp[AB] at ht
  rw[ht] at h
  cases hd:o.dst with
  | none=>simp[BW,hd] at h
  | some d=>exact KR H hd hx hr ht h
 ·exact NJ H hx hr hna h hfr (fun t cs e=>ht ⟨t,cs,e⟩)
theorem P4 {xs:List Operand} (h:∀ x∈xs,AT x):Pb C w a σ Lt cv (xs.map (AB σ.env)) (xs.map a.eval):=by
 induction xs with
 | nil=>exact .nil
 | cons x xs ih=>exact .cons (.inl ⟨x,h x (by simp),rfl,rfl⟩) (ih fun y hy=>h y (mem_cons_of_mem _ hy))
theorem Pb.append {rs rs':List Ro} {xs xs':List Value} (h:Pb C w a σ Lt cv rs xs) (h':Pb C w a σ Lt cv rs' xs'):Pb C w a σ Lt cv (rs++rs') (xs++xs'):=by
 induction h with
 | nil=>exact h'
 | cons h t ih=>exact .cons h ih
theorem NM (hst:BY C w a σ Lt cv fp):∀ {caps:List (Nat × AO)} {vs:List Value},CJ w cv σ.env caps vs→(∀ k∈caps.map (·.1),k<1000000∧AI (AE σ.env k)) →
  Pb C w a σ Lt cv ((caps.map fun c=>(c.1,c.2,AE σ.env c.1)).map fun x => .slot x.1 (.ptr x.1 x.2.1) x.2.2) vs
 | [],[],_,_ => .nil
 | [],_::_,h,_=>h.elim
 | _::_,[],h,_=>h.elim
 | c::caps,v::vs,h,hl=>by
   obtain ⟨h1,h2⟩:=hl c.1 (by simp)
   exact .cons (.inr (.inl ⟨c.1,c.1,c.2,rfl,h.1,h1,h2⟩)) (NM hst h.2 fun k hk=>hl k (by simp only[map_cons,mem_cons];exact .inr hk))
theorem Pn {ps:List Pm} {ts:List T} {vs:List Value} {f:Fp} (h:R w C.Fz Lt σ.g ps ts vs f) (hf:f=[]):Pb C w a σ Lt cv ((ps.zip ts).map fun x => .v ⟨false,[x.1],[x.2]⟩) vs:=by
 induction ps generalizing ts vs f with
 | nil =>
   have:=h.length_eq
   have e1:ts=[]:=length_eq_zero_iff.1 (by simpa using this.1)
   have e2:vs=[]:=length_eq_zero_iff.1 (by simpa using this.2)
   subst e1 e2
   exact .nil
 | cons p ps ih =>
   obtain ⟨t1,t2,v1,v2,f1,f2,rfl,rfl,rfl,h1,h2⟩:=R.split (ps:=[p]) (ps' :=ps) h
   obtain ⟨l1,l2⟩:=h1.length_eq
   obtain ⟨t,rfl⟩:=length_eq_one_iff.1 l1
   obtain ⟨v,rfl⟩:=length_eq_one_iff.1 l2
   obtain ⟨e1,e2⟩:=List.append_eq_nil_iff.1 hf
   subst e1
   exact .cons (.inr (.inr ⟨_,[v],rfl,by simp[AD],h1⟩)) (ih h2 e2)
theorem LI {α:Type} (parts:List (Nat × Operand)) (f:Operand→α):(parts.map (·.1)).zip ((parts.map (·.2)).map f)=parts.map fun x=>(x.1,f x.2):=by
 induction parts with
 | nil=>rfl
 | cons p ps ih =>
   simp only[map_cons,List.zip_cons_cons,ih]
theorem Gd {α:Type} {xs:Array α} {x:α} (h:xs.toList=[x]):xs = #[x]:=by
 have:=congrArg List.toArray h;simpa using this
theorem Gb {α:Type} {xs:Array α} {x y:α} (h:xs.toList=[x,y]):xs = #[x,y]:=by
 have:=congrArg List.toArray h;simpa using this
theorem Ce {op:Op} (env:List (Nat × AA)) (h:∀ t i,op ≠ .extract (.tmp t) i):AQ env op=op.operands.toList.map (AB env):=by
 unfold AQ
 split
 ·exact absurd rfl (h _ _)
 ·rfl
theorem PZ {E:AX} {g t:Nat} {r x:Ro} {out:A9} {row:Bool} (h:D2 E g t r x=some (out,row)):out.g=none:=by
 unfold D2 at h
 split at h
 ·simp at h
 split at h
 ·simp at h
 split at h
 ·simp at h
 split at h
 ·simp at h
 split at h
 ·simp at h
 split at h
 ·simp at h
 split at h
 ·simp at h
 split at h
 ·split at h
  ·split at h
   ·simp at h
   ·simp only[zS,zP] at h;rw[← h.1]
  ·split at h
   ·simp only[zS,zP] at h;rw[← h.1]
   ·simp at h
 ·simp at h
theorem ER {c:Call} (hop:o.op = .call c):execOp a.eval o=(do let d ← resolve a.eval c o.type;invoke d.target d.args):=by
 unfold execOp;rw[hop]
theorem Gn {c:Call} (hop:o.op = .call c) {X:Operand} (hc:c.callee = .value X) (f:FuncId) (captured:Array Value) (e:a.eval X = .func (.func f) #[] captured) :
  (execOp a.eval o).run C.P w=(callFunc f (c.args.toList.map a.eval++captured.toList).toArray).run C.P w:=by
 rw[ER hop]
 simp only[resolve,hc,e,Deferred.ofValue,Sem.run_bind,Sem.run_pure,Result.andThen_ok,invoke]
 congr 2
 apply Array.toList_inj.1
 simp
theorem Jq (H:DT C o w a σ Lt cv fp) {c:Call} (hop:o.op = .call c) {X:Operand} (hc:c.callee = .value X):AT X∧∀ x∈c.args.toList,AT x:=by
 have:=H.opn
 rw[hop] at this
 simp only[Op.operands,Call.operands,hc] at this
 exact ⟨this X (by simp),fun x hx=>this x (by simp;right;simpa using hx)⟩
theorem J6 {c:Call} (env:List (Nat × AA)) {X:Operand} (hc:c.callee = .value X):AQ env (.call c)=AB env X::c.args.toList.map (AB env):=by
 rw[Ce _ (by intro t i e;cases e)]
 simp[Op.operands,Call.operands,hc]
theorem J0 {callF:Nat→List Am→Option By} (H:DT C o w a σ Lt cv fp) (hF:∀ f,FnOk C.P C.E.laid callF f) {c:Call} (hop:o.op = .call c) {f:Nat} (hc:c.callee = .value (.func f)) {out:A9} {u:Bool}
  (h:Co C.E callF o f c.argTypes.toList ((AQ σ.env (.call c)).drop 1) σ.g=some (out,u)) (hfr:Av o σ out.ups) :
  AN C o a w ⟨Ae out.ups σ.env,out.g.getD σ.g⟩:=by
 have hna:AH o.op=false:=by rw[hop];rfl
 rw[J6 σ.env hc,List.drop_succ_cons,drop_zero] at h
 have:=Gn (C:=C) (w:=w) (a:=a) hop hc f #[] rfl
 simp only[append_nil] at this
 exact H6 H hna (P4 (Jq H hop hc).2) this (hF f) h hfr
theorem KM {callF:Nat→List Am→Option By} (H:DT C o w a σ Lt cv fp) (hF:∀ f,FnOk C.P C.E.laid callF f) {c:Call} (hop:o.op = .call c) {X:Operand} (hc:c.callee = .value X) {out:A9} {u:Bool}
  (h:(match AQ σ.env (.call c) with
    | .clo _ f caps::rs=>Co C.E callF o f (c.argTypes.toList++caps.map fun _=>0) (rs++caps.map fun x => .slot x.1 (.ptr x.1 x.2.1) x.2.2) σ.g
    | .slot _ (.val false [.fn ps] [.fn f ts] _ _) _::rs=>Co C.E callF o f (c.argTypes.toList++ps.map fun _=>0) (rs++(ps.zip ts).map fun x => .v ⟨false,[x.1],[x.2]⟩) σ.g
    | _=>none)=some (out,u)) (hfr:Av o σ out.ups) :
  AN C o a w ⟨Ae out.ups σ.env,out.g.getD σ.g⟩:=by
 have hst:=H.st
 have hna:AH o.op=false:=by rw[hop];rfl
 have hopn:=Jq H hop hc
 have hargs:=P4 (C:=C) (w:=w) (a:=a) (σ:=σ) (Lt:=Lt) (cv:=cv) hopn.2
 rw[J6 σ.env hc] at h
 cases X with
 | func f=>simp[AB] at h
 | const v=>simp[AB] at h
 | global g=>simp[AB] at h
 | tmp t =>
   rw[AJ] at h
   have hev:a.eval (.tmp t)=cv t:=Ay hst hopn.1
   cases hg:AE σ.env t with
   | clo f caps =>
     simp only[hg] at h
     have hsl:=hst.slots t
     rw[hg] at hsl
     obtain ⟨-,vs,hv,hcr⟩:=hsl
     have hlk:∀ k∈caps.map (·.1),k<1000000∧AI (AE σ.env k):=fun k hk=>hst.looks t k (by rw[hg];exact hk)
     have:=Gn (C:=C) (w:=w) hop hc f vs.toArray (hev.trans hv)
     exact H6 H hna (hargs.append (NM hst hcr hlk)) this (hF f) h hfr
   | val ag p cs d pin =>
     simp only[hg] at h
     have hsl:=hst.slots t
     rw[hg] at hsl
     obtain ⟨vs0,hc0,hR0,-⟩:=hsl
     split at h
     ·rename_i e;simp at e
     ·rename_i e
      simp only[List.cons.injEq,Ro.slot.injEq,AA.val.injEq] at e
      obtain ⟨⟨-,⟨rfl,rfl,rfl,-,-⟩,-⟩,rfl⟩:=e
      have:=Aa hc0
      subst this
      generalize hcv:cv t=v0 at hR0
      generalize hfp:fp t=f0 at hR0
      cases hR0 with
      | @fnv _ _ _ caps _ _ _ _ hi hr =>
        cases hr
        have:=Gn (C:=C) (w:=w) hop hc _ caps.toArray (hev.trans hcv)
        exact H6 H hna (hargs.append (Pn hi rfl)) this (hF _) h hfr
     ·simp at h
   | _=>simp[hg] at h
theorem OQ {callF:Nat→List Am→Option By} (H:DT C o w a σ Lt cv fp) (hF:∀ f,FnOk C.P C.E.laid callF f) {old:AA} {out:A9} {u:Bool} (h:Ao C.E callF o (AQ σ.env o.op) old σ.g=some (out,u)) (hfr:Av o σ out.ups) :
  AN C o a w ⟨Ae out.ups σ.env,out.g.getD σ.g⟩:=by
 have hst:=H.st
 have ha:∀ {x:Option A9},(match x with | none=>none | some x=>some (x,false))=some (out,u)→x=some out:=by
  intro x hx;cases x <;>simp at hx;rw[hx.1]
 have hag:∀ {x:Option A9},(match x with | none=>none | some x=>some (x,true))=some (out,u)→x=some out:=by
  intro x hx;cases x <;>simp at hx;rw[hx.1]
 have hres:(∀ t i,o.op ≠ .extract (.tmp t) i)→AQ σ.env o.op=o.op.operands.toList.map (AB σ.env):=Ce σ.env
 unfold Ao at h
 cases hop:o.op with
 | move X =>
   rw[hres (by rw[hop];intro t i e;cases e),hop] at h
   simp only[Op.operands,map_cons,map_nil] at h
   exact .of_none (IK H (H.opn X (by simp[hop,Op.operands])) (by unfold execOp;rw[hop];rfl) (by rw[hop];rfl) (ha h) hfr)
 | assign X =>
   rw[hres (by rw[hop];intro t i e;cases e),hop] at h
   simp only[Op.operands,map_cons,map_nil] at h
   exact .of_none (KZ H hop (ha h) hfr)
 | pick c x y =>
   rw[hres (by rw[hop];intro t i e;cases e),hop] at h
   simp only[Op.operands,map_cons,map_nil] at h
   split at h
   ·rename_i b hb
    obtain ⟨k,rfl⟩:∃ k,k=b:=⟨b,rfl⟩
    have hl:=Ai hst (H.opn c (by simp[hop,Op.operands])) hb
    simp only[AG] at hl
    have hr:(execOp a.eval o).run C.P w = .ok (.value (if k then a.eval x else a.eval y)) w:=by
     unfold execOp;rw[hop]
     simp only[hl,asBool,Sem.run_bind,Sem.run_pure,Result.andThen_ok]
    cases k with
    | true=>exact .of_none (IK H (H.opn x (by simp[hop,Op.operands])) hr (by rw[hop];rfl) (ha h) hfr)
    | false=>exact .of_none (IK H (H.opn y (by simp[hop,Op.operands])) hr (by rw[hop];rfl) (ha h) hfr)
   ·simp at h
 | alloc t =>
   rw[hres (by rw[hop];intro t i e;cases e),hop] at h
   simp only[Op.operands,map_nil] at h
   split at h
   ·simp at h
   rename_i d hd
   simp only[zS,zP] at h
   obtain ⟨rfl,-⟩:=h
   exact Nr H hop hd hfr
 | box t X =>
   rw[hres (by rw[hop];intro t i e;cases e),hop] at h
   simp only[Op.operands,map_cons,map_nil] at h
   exact .of_none (Nw H hop (hag h) hfr)
 | build t parts =>
   rw[hres (by rw[hop];intro t i e;cases e),hop] at h
   simp only[Op.operands] at h
   rw[LI] at h
   exact .of_none (L8 H hop (hag h) hfr)
 | buildSlice t n parts =>
   rw[hres (by rw[hop];intro t i e;cases e),hop] at h
   simp only[Op.operands] at h
   rw[LI] at h
   exact .of_none (He H hop (hag h) hfr)
 | load t X =>
   rw[hres (by rw[hop];intro t i e;cases e),hop] at h
   simp only[Op.operands,map_cons,map_nil] at h
   exact .of_none (NR H hop (ha h) hfr)
 | store t X Y =>
   rw[hres (by rw[hop];intro t i e;cases e),hop] at h
   simp only[Op.operands,map_cons,map_nil] at h
   split at h
   ·simp at h
   rename_i hdn
   have hdn:o.dst=none:=by cases hd:o.dst <;>simp_all
   split at h
   ·simp at h
   rename_i out' row hs
   have hg:=PZ hs
   have:=L1 H hop hdn hs
   split at h
   ·rename_i hrow
    simp only[zS,zP] at h
    obtain ⟨rfl,-⟩:=h
    rw[if_pos hrow] at this
    exact this
   ·rename_i hrow
    simp only[zS,zP] at h
    obtain ⟨rfl,-⟩:=h
    rw[if_neg hrow] at this
    rw[hg];exact this
 | nilCheck X =>
   rw[hres (by rw[hop];intro t i e;cases e),hop] at h
   simp only[Op.operands,map_cons,map_nil] at h
   exact .of_none (Iy H hop (ha h) hfr)
 | binOp op xt X Y yt =>
   rw[hres (by rw[hop];intro t i e;cases e),hop] at h
   simp only[Op.operands,map_cons,map_nil] at h
   split at h
   ·simp at h
   rename_i u1 hX
   split at h
   ·simp at h
   rename_i v1 hY
   split at h
   ·rename_i hb
    exact .of_none (OD H hop hX hY hb (ha h) hfr)
   ·simp at h
 | unOp op xt X =>
   rw[hres (by rw[hop];intro t i e;cases e),hop] at h
   simp only[Op.operands,map_cons,map_nil] at h
   split at h
   ·simp at h
   rename_i u1 hX
   exact .of_none (PH H hop hX (ha h) hfr)
 | convert src dst X =>
   rw[hres (by rw[hop];intro t i e;cases e),hop] at h
   simp only[Op.operands,map_cons,map_nil] at h
   exact .of_none (JV H hop (hag h) hfr)
 | makeFunc fn first caps =>
   rw[hres (by rw[hop];intro t i e;cases e),hop] at h
   simp only[Op.operands] at h
   exact .of_none (Ix H hop (ha h) hfr)
 | makeSlice t X Y =>
   rw[hres (by rw[hop];intro t i e;cases e),hop] at h
   simp only[Op.operands,map_cons,map_nil] at h
   split at h
   ·rename_i hs
    exact .of_none (II H hop hs (ha h) hfr)
   ·simp at h
 | slice t X lo hi mx =>
   rw[hres (by rw[hop];intro t i e;cases e),hop] at h
   cases mx with
   | some m=>simp at h
   | none =>
     cases lo <;>cases hi <;>simp[Op.operands] at h
     all_goals exact .of_none (Kn H hop (hag h) hfr)
 | fieldAddr s X f =>
   rw[hres (by rw[hop];intro t i e;cases e),hop] at h
   simp only[Op.operands,map_cons,map_nil] at h
   exact .of_none (H8 H hop (ha h) hfr)
 | field s X f =>
   rw[hres (by rw[hop];intro t i e;cases e),hop] at h
   simp only[Op.operands,map_cons,map_nil] at h
   exact .of_none (MT H hop (ha h) hfr)
 | indexAddr t X I =>
   rw[hres (by rw[hop];intro t i e;cases e),hop] at h
   simp only[Op.operands,map_cons,map_nil] at h
   exact .of_none (IH H hop (hag h) hfr)
 | index t X I =>
   rw[hres (by rw[hop];intro t i e;cases e),hop] at h
   simp only[Op.operands,map_cons,map_nil] at h
   exact .of_none (MI H hop (ha h) hfr)
 | extract X i =>
   cases X with
   | tmp t =>
     rw[hop] at h
     simp only[AQ] at h
     exact .of_none (KS H hop (ha h) hfr)
   | _ =>
     rw[hop] at h
     simp[AQ,Op.operands,AB,F7] at h
 | call c =>
   cases hc:c.callee with
   | value X =>
     rw[hop] at h
     simp only[hc] at h
     cases X with
     | func f=>exact J0 H hF hop hc h hfr
     | _=>exact KM H hF hop hc h hfr
   | invoke r m=>rw[hop] at h;simp[hc] at h
   | builtin b =>
     rw[hres (by rw[hop];intro t i e;cases e),hop] at h
     simp only[Op.operands,Call.operands,hc,Array.toList_append,nil_append] at h
     have hopn:∀ x∈c.args.toList,AT x:=by
      have:=H.opn
      rw[hop] at this
      simp only[Op.operands,Call.operands,hc] at this
      exact fun x hx=>this x (by simpa using hx)
     have hna:AH o.op=false:=by rw[hop];rfl
     split at h
     ·rename_i t r ht hr
      obtain ⟨X,hX,rfl⟩:∃ X,c.args.toList=[X]∧r=AB σ.env X:=by
       cases hl:c.args.toList with
       | nil=>simp[hl] at hr
       | cons X xs=>cases xs <;>simp[hl] at hr;exact ⟨X,rfl,hr.symm⟩
      refine .of_none (N8 (ty:=o.type) H (hopn X (by simp[hX])) hna (fun v hv => ?_) (hag h) hfr)
      rw[ER hop]
      simp only[resolve,hc,Sem.run_bind,Sem.run_pure,Result.andThen_ok,invoke,builtin,Gd ht,Gd hX,List.map_toArray,map_cons,map_nil,hv]
     ·rename_i t1 t2 s x ht hr
      obtain ⟨X,Y,hX,rfl,rfl⟩:∃ X Y,c.args.toList=[X,Y]∧s=AB σ.env X∧x=AB σ.env Y:=by
       cases hl:c.args.toList with
       | nil=>simp[hl] at hr
       | cons X xs =>
         cases xs with
         | nil=>simp[hl] at hr
         | cons Y xs=>cases xs <;>simp[hl] at hr;exact ⟨X,Y,rfl,hr.1.symm,hr.2.symm⟩
      refine .of_none (KV (ty:=o.type) H (hopn X (by simp[hX])) (hopn Y (by simp[hX])) hna (fun v w' hv => ?_) (hag h) hfr)
      rw[ER hop]
      simp only[resolve,hc,Sem.run_bind,Sem.run_pure,Result.andThen_ok,invoke,builtin,Gb ht,Gb hX,List.map_toArray,map_cons,map_nil,hv]
     ·split at h
      ·rename_i t ts hl
       refine .of_none (Ia (m:=true) H hopn hna (fun x rest v w' hxs hv => ?_) hl (ha h) hfr)
       rw[ER hop]
       have e:(c.args.map a.eval).toList=x::rest:=by rw[Array.toList_map];exact hxs
       simp only[resolve,hc,Sem.run_bind,Sem.run_pure,Result.andThen_ok,invoke,builtin,Builtin.max_,e]
       simp only[if_true] at hv
       rw[hv];rfl
      ·simp at h
     ·split at h
      ·rename_i t ts hl
       refine .of_none (Ia (m:=false) H hopn hna (fun x rest v w' hxs hv => ?_) hl (ha h) hfr)
       rw[ER hop]
       have e:(c.args.map a.eval).toList=x::rest:=by rw[Array.toList_map];exact hxs
       simp only[resolve,hc,Sem.run_bind,Sem.run_pure,Result.andThen_ok,invoke,builtin,Builtin.min_,e]
       simp only[Bool.false_eq_true,if_false] at hv
       rw[hv];rfl
      ·simp at h
     ·simp at h
 | _=>rw[hop] at h;simp at h
end
section
variable {C:BU} {w w':World} {a a':Act} {σ:AS} {Lt Lt':Nat→Nat→Prop} {cv cv':Nat→Value} {fp fpU:Nat→Fp} {g g':Nat} {env env':List (Nat × AA)} {o:Oper} {Fz Fz':Nat→Prop}
theorem CJ.congr (h:∀ k,AE env' k=AE env k):∀ {caps:List (Nat × AO)} {vs:List Value},CJ w cv env caps vs→CJ w cv env' caps vs
 | [],[],_=>trivial
 | [],_::_,h=>h.elim
 | _::_,[],h=>h.elim
 | c::caps,v::vs,hc=>⟨by rw[h];exact hc.1,CJ.congr h hc.2⟩
theorem AR.congr (h:∀ k,AE env' k=AE env k) {k:Nat} {f:Fp} {s:AA} (hs:AR C w Lt g cv env k f s):AR C w Lt g cv env' k f s:=by
 cases s with
 | view k' pl=>exact ⟨hs.1,by rw[h];exact hs.2⟩
 | ptr k' pl=>exact ⟨hs.1,by rw[h];exact hs.2⟩
 | clo fn caps =>
   obtain ⟨h1,vs,h2,h3⟩:=hs
   exact ⟨h1,vs,h2,h3.congr h⟩
 | _=>exact hs
theorem BY.congr (h:∀ k,AE env' k=AE σ.env k) (hs:BY C w a σ Lt cv fp):BY C w a ⟨env',σ.g⟩ Lt cv fp :=
 ⟨hs.tmps,fun k=>by
   show AR C w Lt σ.g cv env' k (fp k) (AE env' k)
   rw[h k];exact (hs.slots k).congr h,hs.nodup,hs.disj,hs.wok,hs.lt,fun j k hk=>by
   simp only at hk ⊢
   rw[h j] at hk;rw[h k];exact hs.looks j k hk,hs.fz,hs.ext,hs.size,hs.laid⟩
theorem St.congr {g:Nat} (h:∀ k,AE env' k=AE σ.env k) (hg:g=σ.g) (hs:St C w a σ):St C w a ⟨env',g⟩:=by
 subst hg
 obtain ⟨h1,Lt,cv,fp,h2⟩:=hs
 exact ⟨h1,Lt,cv,fp,h2.congr h⟩
theorem F5 {x:Operand} (h:∀ k∈(AB env x).foot,AE env' k=AE env k):AB env' x=AB env x:=by
 cases x with
 | tmp t =>
   have ht:AE env' t=AE env t:=by
    refine h t ?_
    rw[AJ]
    cases AE env t <;>simp[Ro.foot]
   rw[AJ,AJ,ht]
   rw[AJ] at h
   cases hg:AE env t with
   | view k pl=>simp only[hg,Ro.foot] at h ⊢;rw[h k (by simp)]
   | ptr k pl=>simp only[hg,Ro.foot] at h ⊢;rw[h k (by simp)]
   | clo f caps =>
     simp only[hg,Ro.foot] at h ⊢
     congr 1
     refine map_congr_left fun c hc => ?_
     rw[h c.1 (by simp only[mem_cons,mem_map];exact .inr ⟨_,⟨c,hc,rfl⟩,rfl⟩)]
   | tup n =>
     simp only[hg,Ro.foot] at h ⊢
     congr 1
     refine map_congr_left fun i hi => ?_
     refine h _ ?_
     simp only[length_map,DA,mem_cons,mem_map]
     exact .inr ⟨i,hi,rfl⟩
   | _=>rfl
 | _=>rfl
theorem QU {rs:List Ro} {r:Ro} {k:Nat} (hr:r∈rs) (hk:k∈r.foot):k∈KW rs:=by
 induction rs with
 | nil=>simp at hr
 | cons x xs ih =>
   simp only[KW,mem_append]
   rw[mem_cons] at hr
   rcases hr with rfl | hr
   ·exact .inl hk
   ·exact .inr (ih hr)
theorem I1 {op:Op} (h:∀ k∈KW (AQ env op),AE env' k=AE env k):AQ env' op=AQ env op:=by
 by_cases hop:∃ t i,op = .extract (.tmp t) i
 ·obtain ⟨t,i,rfl⟩:=hop
  simp only[AQ,KW,Ro.foot] at h ⊢
  rw[h t (by simp),h (AF t i) (by simp)]
 ·have hne:∀ t i,op ≠ .extract (.tmp t) i:=fun t i e=>hop ⟨t,i,e⟩
  rw[Ce env hne] at h
  rw[Ce env hne,Ce env' hne]
  refine map_congr_left fun x hx => ?_
  exact F5 fun k hk=>h k (QU (mem_map.2 ⟨x,hx,rfl⟩) hk)
theorem JY {E:AX} {callF:Nat→List Am→Option By} {f:Nat} {tys:List Nat} {rs:List Ro} {g g':Nat} {out:A9} (h:Co E callF o f tys rs g=some (out,false)):Co E callF o f tys rs g'=some (out,false):=by
 unfold Co at h ⊢
 split at h
 ·simp at h
 ·split at h
  ·rename_i h1
   rw[if_pos h1]
   split at h
   ·rename_i h2
    rw[if_pos h2];exact h
   ·split at h
    ·simp at h
    ·split at h
     ·simp at h
     ·split at h <;>simp at h
  ·split at h
   ·simp at h
   ·split at h
    ·split at h
     ·simp at h
     ·split at h
      ·split at h
       ·simp at h
       ·split at h <;>simp at h
      ·simp at h
    ·simp at h
theorem RC {E:AX} {callF:Nat→List Am→Option By} {rs:List Ro} {old:AA} {g g':Nat} {out:A9} (h:Ao E callF o rs old g=some (out,false)):Ao E callF o rs old g'=some (out,false):=by
 have hag:∀ {x:Option A9},(match x with | none=>none | some x=>some (x,true))=some (out,false)→False:=by
  intro x hx;cases x <;>simp at hx
 unfold Ao at h ⊢
 split at h <;>try exact h
 all_goals try exact (hag h).elim
 ·split at h
  ·simp at h
  ·split at h
   ·simp at h
   ·split at h <;>simp at h
 ·split at h <;>first | exact (hag h).elim | simp at h
 ·rename_i c _
  split at h
  ·split at h <;>first | exact h | exact (hag h).elim | simp at h
  ·exact JY h
  ·split at h
   ·exact JY h
   ·exact JY h
   ·simp at h
  ·simp at h
theorem EJ:∀ (d:CE),Bq d=(At d).any fun x=>Nat.ble 1000000 x.2
 | []=>rfl
 | ([],c,n)::d=>by simp only[Bq,At,List.any_cons,EJ d]
 | (_::_,_,_)::d=>by simp only[Bq,At,EJ d]
theorem Jt {a b:List (Nat × Nat)} (h:(a.map fun x=>(([]:List Nat),x.1,x.2))=b.map fun x=>([],x.1,x.2)):a=b:=by
 induction a generalizing b with
 | nil=>cases b with
   | nil=>rfl
   | cons y b=>simp at h
 | cons x a ih=>cases b with
   | nil=>simp at h
   | cons y b =>
     obtain ⟨x1,x2⟩:=x
     obtain ⟨y1,y2⟩:=y
     simp only[map_cons,List.cons.injEq,zP,true_and] at h
     obtain ⟨⟨rfl,rfl⟩,h⟩:=h
     rw[ih h]
theorem Gm:∀ {a b:List (Nat × Nat)},FH a b=true→a=b
 | [],[],_=>rfl
 | [],_::_,h=>by simp[FH] at h
 | _::_,[],h=>by simp[FH] at h
 | (a,b)::xs,(c,d)::ys,h=>by
   simp only[FH,zB] at h
   obtain ⟨⟨h1,h2⟩,h3⟩:=h
   rw[Nat.eq_of_beq_eq_true h1,Nat.eq_of_beq_eq_true h2,Gm h3]
theorem Mu {s s':AA} (h:HH s s'=true):s'.skel=s.skel:=by
 unfold HH at h
 split at h
 ·simp only[zB,beq_iff_eq] at h
  obtain ⟨⟨⟨⟨rfl,h2⟩,h3⟩,h4⟩,h5⟩:=h
  simp only[AA.skel]
  rw[pbeqs_eq h2,Nat.eq_of_beq_eq_true h3,Gm h4,Nat.eq_of_beq_eq_true h5]
 ·simp only[zB] at h
  obtain ⟨⟨⟨h2,h3⟩,h4⟩,h5⟩:=h
  simp only[AA.skel]
  rw[pbeqs_eq h2,Nat.eq_of_beq_eq_true h3,Gm h4,Nat.eq_of_beq_eq_true h5]
 ·simp at h
theorem Mf {s:AA} {p:List Pm} {cs:List T} {d:CE} {pin:Nat} (h:s.skel=(AA.box p cs d pin).skel):∃ cs' d',s = .box p cs' d' pin∧cs'.length=cs.length∧At d'=At d:=by
 cases s <;>simp only[AA.skel] at h <;>try simp at h
 rename_i p' cs' d' pin'
 obtain ⟨rfl,h1,h2,rfl⟩:=h
 exact ⟨cs',d',rfl,h1,by
  refine Jt ?_
  simpa using h2⟩
theorem Qh {s:AA} {a:Bool} {p:List Pm} {cs:List T} {d:CE} {pin:Nat} (h:s.skel=(AA.val a p cs d pin).skel):∃ cs' d',s = .val a p cs' d' pin∧cs'.length=cs.length∧At d'=At d:=by
 cases s <;>simp only[AA.skel] at h <;>try simp at h
 rename_i a' p' cs' d' pin'
 obtain ⟨rfl,rfl,h1,h2,rfl⟩:=h
 exact ⟨cs',d',rfl,h1,by
  refine Jt ?_
  simpa using h2⟩
theorem O6 {s s':AA} (h:s'.skel=s.skel) {p:List Pm} {cs:List T} {d:CE} (hr:s.root=some (p,cs,d)):∃ cs' d',s'.root=some (p,cs',d')∧cs'.length=cs.length∧At d'=At d:=by
 cases s <;>simp only[AA.root,zS,zP] at hr <;>try simp at hr
 ·obtain ⟨rfl,rfl,rfl⟩:=hr
  obtain ⟨cs',d',rfl,h1,h2⟩:=Qh h
  exact ⟨cs',d',rfl,h1,h2⟩
 ·obtain ⟨rfl,rfl,rfl⟩:=hr
  obtain ⟨cs',d',rfl,h1,h2⟩:=Mf h
  exact ⟨cs',d',rfl,h1,h2⟩
theorem Pq {cs cs':List T} {i n:Nat} {r:List T} (h:CG cs i n=some r) (hl:cs'.length=cs.length):∃ r',CG cs' i n=some r' :=by
 cases n with
 | zero=>exact ⟨[],rfl⟩
 | succ n =>
   have:=(Bh h).2.2 (by omega)
   exact ⟨_,GG (by omega)⟩
def Fd (r r':Ro):Prop:=r'=r∨(∃ t k pl root root',pl.path=[]∧r = .slot t (.ptr k pl) root∧r' = .slot t (.ptr k pl) root'∧root'.skel=root.skel) ∨
 (∃ t p cs cs' d d' pin,r = .slot t (.box p cs d pin) .dead∧r' = .slot t (.box p cs' d' pin) .dead∧cs'.length=cs.length∧At d'=At d)
theorem Fd.ptr {r r':Ro} (h:Fd r r') {k:Nat} {pl:AO} {root:AA} {p:List Pm} {cs:List T} {d:CE} (hp:A1 r=some (k,pl,root)) (hr:root.root=some (p,cs,d)) :
  r'=r∨(pl.path=[]∧∃ root' cs' d',A1 r'=some (k,pl,root')∧root'.root=some (p,cs',d')∧cs'.length=cs.length):=by
 rcases h with h | ⟨t,k1,pl1,root1,root2,h1,rfl,rfl,h4⟩ | ⟨t,p1,cs1,cs2,d1,d2,pin,rfl,rfl,h3,h4⟩
 ·exact .inl h
 ·right
  simp only[A1] at hp ⊢
  cases hr1:root1.root with
  | none=>simp[hr1] at hp
  | some pcd =>
    obtain ⟨p2,cs2,d2⟩:=pcd
    simp only[hr1] at hp
    split at hp
    ·simp at hp
    rename_i hst
    simp only[zS,zP] at hp
    obtain ⟨rfl,rfl,rfl⟩:=hp
    rw[hr] at hr1
    obtain ⟨rfl,rfl,rfl⟩:p=p2∧cs=cs2∧d=d2:=by simpa using hr1
    obtain ⟨cs',d',e1,e2,e3⟩:=O6 h4 hr
    have hst':BF d' pl1=BF d pl1:=by
     unfold BF
     rw[h1]
     simp only[EJ,e3]
    refine ⟨h1,root2,cs',d',?_,e1,e2⟩
    rw[e1]
    simp only[hst']
    rw[if_neg hst]
 ·right
  simp only[A1,zS,zP] at hp
  obtain ⟨rfl,rfl,rfl⟩:=hp
  simp only[AA.root,zS,zP] at hr
  obtain ⟨rfl,rfl,rfl⟩:=hr
  exact ⟨rfl,_,cs2,d2,rfl,rfl,h3⟩
theorem KJ {r:Ro} {k:Nat} {pl:AO} {root:AA} (h:A1 r=some (k,pl,root)):∃ p cs d,root.root=some (p,cs,d):=by
 unfold A1 at h
 split at h
 ·split at h
  ·simp at h
  ·rename_i hr
   split at h
   ·simp at h
   ·simp only[zS,zP] at h
    obtain ⟨-,-,rfl⟩:=h
    exact ⟨_,_,_,hr⟩
 ·simp only[zS,zP] at h
  obtain ⟨-,-,rfl⟩:=h
  exact ⟨_,_,_,rfl⟩
 ·simp at h
theorem Fd.none {r r':Ro} (h:Fd r r') (hp:A1 r=none):r'=r∨∃ t k pl root root',r = .slot t (.ptr k pl) root∧r' = .slot t (.ptr k pl) root' :=by
 rcases h with h | ⟨t,k1,pl1,root1,root2,h1,rfl,rfl,h4⟩ | ⟨t,p1,cs1,cs2,d1,d2,pin,rfl,rfl,h3,h4⟩
 ·exact .inl h
 ·exact .inr ⟨_,_,_,_,_,rfl,rfl⟩
 ·simp[A1] at hp
theorem JL {E:AX} {s f:Nat} {r r':Ro} {out:A9} (hs:Fd r r') (h:Bj E o s r f=some out):Bj E o s r' f=some out:=by
 unfold Bj at h ⊢
 split at h
 ·simp at h
 rename_i d hd
 try simp only[hd]
 split at h <;>try simp at h
 rename_i fs hk
 try simp only[hk]
 split at h
 ·simp at h
 rename_i off ty hf
 try simp only[hf]
 split at h
 ·simp at h
 rename_i d' hd'
 try simp only[hd']
 split at h
 ·rename_i k pl root hp
  obtain ⟨p,cs,dd,hr⟩:=KJ hp
  rcases hs.ptr hp hr with rfl | ⟨h1,root',cs',dd',h2,h3,h4⟩
  ·simp only[hp];exact h
  ·simp only[hr,h1,rowAt] at h
   simp only[h2,h3,h1,rowAt]
   exact h
 ·rename_i hp
  rcases hs.none hp with rfl | ⟨t,k,pl,root,root',rfl,rfl⟩
  ·simp only[hp];exact h
  ·simp at h
theorem Pg {E:AX} {t:Nat} {r r':Ro} {out:A9} {j k:Nat} {pl:AO} (hs:Fd r r') (hv:out.ups=[(j,.view k pl)]) (h:EB E o t r=some out):EB E o t r'=some out:=by
 unfold EB at h ⊢
 split at h
 ·simp at h
 rename_i d hd
 try simp only[hd]
 split at h
 ·rename_i k1 pl1 root hp
  obtain ⟨p,cs,dd,hr⟩:=KJ hp
  rcases hs.ptr hp hr with rfl | ⟨h1,root',cs',dd',h2,h3,h4⟩
  ·simp only[hp];exact h
  ·simp only[hr] at h
   simp only[h2,h3]
   split at h
   ·simp at h
   rename_i v hat
   obtain ⟨el,rcs,a1,a2,a3,a4⟩:=Ac hat
   simp only[h1,rowAt,zS,zP] at a1
   obtain ⟨rfl,rfl⟩:=a1
   obtain ⟨r2,e2⟩:=Pq a3 h4
   have hat':atPlace p cs' { pl1 with n:=d.sz,agg:=d.agg }=some ⟨d.agg,v.p,r2⟩:=by
    unfold atPlace
    simp only[h1,rowAt]
    simp only at a2 e2
    rw[a2,e2]
   rw[hat']
   simp only
   split at h
   ·simp only[zS] at h
    subst h
    unfold AL Qz at hv
    cases hdst:o.dst <;>simp[hdst] at hv
   ·rename_i hno
    rw[if_neg hno];exact h
 ·rename_i hp
  rcases hs.none hp with rfl | ⟨t,k,pl,root,root',rfl,rfl⟩
  ·simp only[hp];exact h
  ·simp at h
theorem GY {x:Operand} {r:Ro} (hr:AB env x=r) (h1:∀ k∈EG r,AE env' k=AE env k) (h2:∀ k,CD k∈EG r→(AE env' k).skel=(AE env k).skel):Fd r (AB env' x):=by
 have full:EG r=r.foot→Fd r (AB env' x):=fun e => .inl (by
  rw[← hr]
  refine F5 fun k hk=>h1 k ?_
  rw[e,← hr];exact hk)
 cases x with
 | tmp t =>
   rw[AJ] at hr
   cases hg:AE env t with
   | ptr k pl =>
     simp only[hg] at hr
     subst hr
     cases hp:pl.path with
     | cons a l=>exact full (by simp[EG,hp,Ro.foot])
     | nil =>
       have ht:AE env' t=AE env t:=h1 t (by simp[EG,hp])
       have hk:(AE env' k).skel=(AE env k).skel:=h2 k (by simp[EG,hp])
       right;left
       refine ⟨t,k,pl,AE env k,AE env' k,hp,rfl,?_,hk⟩
       rw[AJ,ht,hg]
   | box p cs d pin =>
     simp only[hg] at hr
     subst hr
     have hk:(AE env' t).skel=(AE env t).skel:=h2 t (by simp[EG])
     rw[hg] at hk
     obtain ⟨cs',d',e1,e2,e3⟩:=Mf hk
     right;right
     refine ⟨t,p,cs,cs',d,d',pin,rfl,?_,e2,e3⟩
     rw[AJ,e1]
   | _ =>
     refine full ?_
     simp only[hg] at hr
     subst hr
     rfl
 | _ =>
   refine full ?_
   subst hr
   rfl
theorem OT {E:AX} {callF:Nat→List Am→Option By} {old:AA} {g:Nat} {out:A9} {u:Bool} (h1:∀ k∈Jh o.op (AQ env o.op) out.ups,AE env' k=AE env k)
  (h2:∀ k,CD k∈Jh o.op (AQ env o.op) out.ups→(AE env' k).skel=(AE env k).skel) (h:Ao E callF o (AQ env o.op) old g=some (out,u)) :
  Ao E callF o (AQ env' o.op) old g=some (out,u):=by
 have full:Jh o.op (AQ env o.op) out.ups=KW (AQ env o.op)→Ao E callF o (AQ env' o.op) old g=some (out,u):=fun e=>by
  rw[I1 (env' :=env') fun k hk=>h1 k (by rw[e];exact hk)];exact h
 cases hop:o.op with
 | fieldAddr s x f =>
   have he:AQ env (.fieldAddr s x f)=[AB env x]:=rfl
   have he':AQ env' (.fieldAddr s x f)=[AB env' x]:=rfl
   rw[hop,he] at h1 h2 h
   rw[he']
   have hs:=GY (env' :=env') (x:=x) rfl h1 h2
   unfold Ao at h ⊢
   simp only[hop] at h ⊢
   cases hf:Bj E o s (AB env x) f with
   | none=>simp[hf] at h
   | some out' =>
     rw[JL hs hf]
     rw[hf] at h
     exact h
 | load t x =>
   have he:AQ env (.load t x)=[AB env x]:=rfl
   have he':AQ env' (.load t x)=[AB env' x]:=rfl
   by_cases hv:∃ j k pl,out.ups=[(j,.view k pl)]
   ·obtain ⟨j,k,pl,hv⟩:=hv
    rw[hop,he] at h1 h2 h
    rw[hv] at h1 h2
    rw[he']
    have hs:=GY (env' :=env') (x:=x) rfl h1 h2
    unfold Ao at h ⊢
    simp only[hop] at h ⊢
    cases hf:EB E o t (AB env x) with
    | none=>simp[hf] at h
    | some out' =>
      rw[hf] at h
      simp only[zS,zP] at h
      obtain ⟨rfl,rfl⟩:=h
      rw[Pg hs hv hf]
   ·rw[← hop]
    refine full ?_
    rw[hop,he]
    show (match [AB env x],out.ups with
     | [r],[(_,.view _ _)]=>EG r
     | rs,_=>KW rs)=_
    split
    ·rename_i heq
     exact absurd ⟨_,_,_,heq⟩ hv
    ·rfl
 | _ =>
   rw[← hop]
   refine full ?_
   rw[hop]
   rfl
theorem MH {E:AX} {callF:Nat→List Am→Option By} {ops:Array Oper} {σ τ:AS} {st:C6} (h:Bk E callF ops o σ=some st) (he:∀ k∈st.foot,AE τ.env k=AE σ.env k) (hs:∀ k,CD k∈st.foot→(AE τ.env k).skel=(AE σ.env k).skel) (hg:G∈st.foot→τ.g=σ.g) :
  ∃ st',Bk E callF ops o τ=some st'∧st'.ups=st.ups∧st'.g=st.g:=by
 have hguard:∀ b f,D3 ops σ.env o=some (b,f)→(∀ k∈f,AE τ.env k=AE σ.env k)→D3 ops τ.env o=some (b,f):=by
  intro b f hb hf
  unfold D3 at hb ⊢
  split at hb
  ·exact hb
  ·split at hb
   ·simp at hb
   ·rename_i d hd
    have:AE τ.env d=AE σ.env d:=by
     refine hf d ?_
     split at hb
     ·simp only[zS,zP] at hb;rw[← hb.2];simp
     ·simp only[zS,zP] at hb;rw[← hb.2];simp
     ·simp at hb
    rw[this];exact hb
 unfold Bk at h ⊢
 split at h
 ·simp at h
 ·rename_i f hb
  simp only[zS] at h
  subst h
  rw[hguard _ _ hb he]
  exact ⟨_,rfl,rfl,rfl⟩
 ·rename_i f hb
  split at h
  ·simp at h
  rename_i out u hrun
  split at h
  ·rename_i hfr
   simp only[zS] at h
   subst h
   simp only at he hg hs
   rw[hguard _ _ hb (fun k hk=>he k (by simp[hk]))]
   have hold:GS τ.env o=GS σ.env o:=by
    unfold GS
    cases hd:o.dst with
    | none=>rfl
    | some d=>exact he d (by simp[DL,hd])
   have hrun':Ao E callF o (AQ τ.env o.op) (GS τ.env o) τ.g=some (out,u):=by
    rw[hold]
    refine OT (fun k hk=>he k (by simp[hk])) (fun k hk=>hs k (by simp[hk])) ?_
    cases u with
    | true=>rw[hg (by simp)];exact hrun
    | false=>exact RC hrun
   rw[hold] at hrun'
   simp only[hold,hrun']
   rw[if_pos hfr]
   exact ⟨_,rfl,rfl,rfl⟩
  ·simp at h
def Jx (n:Nat) (ks:List Nat) (ops:Array Oper):Bool :=
 ops.toList.all (fun o=>(match o.dst with | none=>true | some d=>Nat.blt d n && !(ks.any fun k=>k==d))&&o.op.operands.toList.all (fun x=>match x with | .tmp t=>Nat.blt t 1000000 | _=>true)) &&
 ops.toList.zipIdx.all fun x=>x.1.after.all fun e => !Region.binds .any e||Nat.blt e.on x.2
theorem G9 {n:Nat} {ks:List Nat} {ops:Array Oper} (h:Jx n ks ops=true) {i:Nat} {o:Oper} (ho:ops[i]?=some o) :
  (∀ d,o.dst=some d→d<n∧d ∉ ks)∧(∀ x∈o.op.operands.toList,AT x)∧∀ e∈o.after,Region.binds .any e=true→e.on<i:=by
 unfold Jx at h
 simp only[zB,all_eq_true] at h
 have hm:o∈ops.toList:=by simpa using Array.mem_of_getElem? ho
 obtain ⟨h1,h2⟩:=h
 obtain ⟨a1,a2⟩:=h1 o hm
 refine ⟨fun d hd => ?_,fun x hx => ?_,fun e he hb => ?_⟩
 ·rw[hd] at a1
  simp only[zB,Bool.not_eq_true',any_eq_false,beq_iff_eq] at a1
  exact ⟨by simpa using a1.1,fun hm=>a1.2 d hm rfl⟩
 ·have:=a2 x hx
  cases x with
  | tmp t=>simpa [AT] using this
  | _=>trivial
 ·have hz:(o,i)∈ops.toList.zipIdx:=by
   rw[List.mem_zipIdx_iff_getElem?];simpa using ho
  have:=h2 _ hz
  rw[Array.all_eq_true_iff_forall_mem] at this
  simpa [hb] using this e he
def HK (C:BU) (n:Nat) (w:World) (a:Act) (σ:AS):Prop:=St C w a σ∧a.tmps.size=n∧∀ kx∈C.fx,a.tmps.getD kx.1 undef=kx.2
theorem Qp {n:Nat} {d:Option Nat} {v:Value} (h:a.tmps.size=n∧∀ kx∈C.fx,a.tmps.getD kx.1 undef=kx.2) (hd:∀ k,d=some k→k<n∧k ∉ C.fx.map (·.1)) :
  (a.put d v).tmps.size=n∧∀ kx∈C.fx,(a.put d v).tmps.getD kx.1 undef=kx.2:=by
 refine ⟨by rw[EW];exact h.1,fun kx hkx => ?_⟩
 cases d with
 | none=>exact h.2 kx hkx
 | some k =>
   obtain ⟨h1,h2⟩:=hd k rfl
   rw[EX a k kx.1 v (by rw[h.1];exact h1),if_neg]
   ·exact h.2 kx hkx
   ·intro e
    exact h2 (e ▸ mem_map.2 ⟨kx,hkx,rfl⟩)
theorem Ie (h:BY C w a σ Lt cv fp) {ops:Array Oper} {b:Bool} {f:List Nat} (hn:∀ (j:Nat) (o':Oper),ops[j]?=some o'→∀ d,o'.dst=some d→d<a.tmps.size) (hg:D3 ops σ.env o=some (b,f)):Region.wanted o (yielded ops a.tmps)=b:=by
 unfold D3 at hg
 unfold Region.wanted
 split at hg
 ·simp only[zS,zP] at hg
  rename_i hgd
  rw[hgd];exact hg.1
 ·rename_i j want hgd
  rw[hgd]
  simp only
  split at hg
  ·simp at hg
  rename_i d hd
  have hs:=h.slots d
  have hds:d<a.tmps.size:=by
   cases hj:ops[j]? with
   | none=>simp[hj] at hd
   | some o'=>exact hn j o' hj d (by simpa [hj] using hd)
  have hlt:∀ v,a.tmps[d]?=some v→cv d=v:=fun v hv=>by
   rw[h.tmps d (Nat.lt_of_lt_of_le hds h.size),Array.getD_eq_getD_getElem?,hv];rfl
  split at hg
  ·rename_i bb _ _ hs'
   simp only[zS,zP] at hg
   rw[hs'] at hs
   obtain ⟨vs,h1,h2,-⟩:=hs
   have:=Aa h1
   subst this
   cases h2 with
   | leaf hl _ =>
     simp only[AG] at hl
     have hy:yielded ops a.tmps j=some bb:=by
      unfold yielded
      rw[hd]
      simp only[Option.bind_some]
      rw[Array.getElem?_eq_getElem hds]
      have:=hlt _ (Array.getElem?_eq_getElem hds)
      rw[hl] at this
      rw[← this]
     rw[hy]
     rw[← hg.1]
     cases bb <;>cases want <;>rfl
  ·rename_i hs'
   simp only[zS,zP] at hg
   rw[hs'] at hs
   obtain ⟨-,hu⟩:=hs
   have hy:yielded ops a.tmps j=none:=by
    unfold yielded
    rw[hd]
    simp only[Option.bind_some]
    cases hv:a.tmps[d]? with
    | none=>rfl
    | some v =>
      have:=hlt v hv
      rw[hu] at this
      rw[← this];rfl
   rw[hy,← hg.1];rfl
  ·simp at hg
theorem Kq {callF:Nat→List Am→Option By} {ops:Array Oper} {n i:Nat} {st:C6} (ho:ops[i]?=some o) (hs:HK C n w a σ) (hok:Jx n (C.fx.map (·.1)) ops=true) (hE:Bw C.P C.E) (hF:∀ f,FnOk C.P C.E.laid callF f)
  (h:Bk C.E callF ops o σ=some st) {K:Act→World→Prop} {Q:Exit→Act→World→Prop} (hK:∀ a' w',HK C n w' a' ⟨Ae st.ups σ.env,st.g.getD σ.g⟩→K a' w'):wpOp C.P ops Q i K a w:=by
 obtain ⟨⟨hdf,Lt,cv,fp,hst⟩,hfx⟩:=hs
 have hsz:=hfx.1
 obtain ⟨hd,hop,-⟩:=G9 hok ho
 have hdn:∀ (j:Nat) (o':Oper),ops[j]?=some o'→∀ d,o'.dst=some d→d<a.tmps.size:=fun j o' hj d hd=>by
  rw[hsz];exact ((G9 hok hj).1 d hd).1
 unfold Bk at h
 unfold wpOp
 rw[ho]
 simp only
 split at h
 ·simp at h
 ·rename_i f hb
  simp only[zS] at h
  subst h
  rw[Ie hst hdn hb]
  simp only[Bool.false_eq_true,if_false]
  refine hK _ _ ⟨⟨by rw[Act.put_defers'];exact hdf,Lt,?_⟩,Qp hfx hd⟩
  cases hdst:o.dst with
  | none =>
    simp only[AL,hdst,Ae,Act.put,Option.getD_none]
    exact ⟨cv,fp,hst⟩
  | some d =>
    simp only[AL,hdst,Ae,Option.getD_none]
    exact hst.put1 (Ab.refl _ _) (hdn i o ho d hdst) ⟨rfl,by simp⟩ (.inl rfl) (by simp[AA.looks]) (.inl trivial)
 ·rename_i f hb
  split at h
  ·simp at h
  rename_i out u hrun
  split at h
  ·rename_i hfr
   simp only[zS] at h
   subst h
   rw[Ie hst hdn hb]
   simp only[if_true]
   have H:DT C o w a σ Lt cv fp:=⟨hst,hdf,hE,hdn i o ho,hop⟩
   refine .inl (OQ H hF hrun (fun d hdst => ?_) K Q fun v w' hs'=>hK _ _ ⟨hs',Qp hfx hd⟩)
   have:GS σ.env o=AE σ.env d:=by unfold GS;rw[hdst]
   rw[← this];exact hfr
  ·simp at h
end
end Go.Desk
end
