/- FnBlocks holds: for every input the law returns true, and its arguments read as before. -/
import Derived.Test.YtokonabdnlckdaaGreatM3c
set_option linter.all false
set_option linter.unusedVariables false
open List (all_cons all_eq_true any_eq_false any_eq_true append_assoc append_nil cons_append count_append drop_drop drop_eq_getElem_cons drop_eq_nil_of_le drop_left' drop_zero flatMap_append flatMap_cons flatMap_def flatMap_singleton flatten_cons flatten_nil foldl_cons length_cons length_drop length_eq_one_iff length_eq_zero_iff length_map length_nil length_set length_singleton length_take mapM_cons map_append map_congr_left map_cons map_nil mem_append mem_append_left mem_append_right mem_cons mem_cons_of_mem mem_cons_self mem_flatten mem_map mem_of_mem_drop mem_or_eq_of_mem_set mem_singleton nil_append nodup_append nodup_cons not_mem_nil perm_append_comm perm_iff_count perm_middle replicate_succ take_append_drop take_left' take_length take_of_length_le take_succ_cons take_zero)
section
namespace Go.Desk
open Go
theorem cG {P:Program} {f:Nat} {el:List Pm} (hr:T0 P f el.length):J2 P (fun _ as=>Qr el as) f:=by
 intro as r h0 w Fz xs mfp hA hnd hF
 have h:Qr el as=some r:=h0
 clear h0
 unfold Qr at h
 split at h
 case h_2=>cases h
 rename_i ea n cs i eb m ds
 split at h
 case isFalse=>cases h
 rename_i hc
 obtain ⟨ha,hb,hW0,hfirm,rfl,i0,ij,hn0,hbig⟩:=hc
 have ha:=(pbeqs_eq ha).symm
 have hb:=(pbeqs_eq hb).symm
 subst ha hb
 simp only[zS] at h
 subst h
 obtain ⟨i,rfl⟩:=Int.eq_ofNat_of_zero_le i0
 have hin:i≤n:=by omega
 simp only[zT]
 cases hA with
 | @io _ x vs f0 _ xs fs hcell hR hA =>
 cases hA with
 | @val _ y vs2 _ xs2 _ hc2 hR2 hA =>
 cases hA with
 | @io _ z vs3 f3 _ xs3 fs3 hc3 hR3 hA =>
 cases hA with
 | nil =>
 obtain ⟨rfl,-⟩:=hR2.int_one
 have hcell:vs=[x]:=hcell
 have hy:[.int .i64 (i:Int)]=[y]:=hc2
 have hc3:vs3=[z]:=hc3
 simp only[List.cons.injEq,and_true] at hy
 subst hcell hy hc3
 rw[append_nil] at hnd ⊢
 refine .inr ⟨hr.enter _ _,?_⟩
 show Calls P f #[x,.int .i64 i,z] w _
 cases hR with
 | slE h hr2=>omega
 | @slO b off _ cap row e fr _ _ vs' _ _ _ fp₁ fp₂ h0 hb hz hl hn hs hr' hf hi r =>
 cases r with
 | nil =>
 cases hR3 with
 | @slO vb voff _ vcap vrow ve vfr _ _ us' _ _ _ gp₁ gp₂ k0 kb kz kl kn ks kr' kf ki r =>
 cases r with
 | nil =>
 simp only[append_nil,cons_append] at hnd
 have hvb:vb≠b:=by
  intro e1
  simp only[map_cons,map_append,nodup_cons,mem_append,mem_cons] at hnd
  exact hnd.1 (.inr (.inl e1.symm))
 rw[Nat.one_mul] at ks
 have hcw:1 * el.length≤vcap * el.length:=Nat.mul_le_mul_right _ kn
 refine (hr.run w b off n cap i vb voff vcap vs' us' row vrow e ve fr vfr hb kb hvb hr' (by omega) hs ks (hi.oneCells (Lg hfirm)) (ki.oneCells (Lg hfirm)) (hf (by omega)) (kf (by omega)) hn0 hn hin hbig kn).mono ?_
 rintro e1 w' ⟨b',off',cap',rfl,hcap',row',e',fr',hb',hsz',hseg,hfr',hcase⟩
 obtain ⟨f',hperm,hins⟩:=hi.insert ki hin
 have hx:Ay w w' (fun b1 t=>b1=b∧off≤t∧t<off+cap * el.length):=by
  rcases hcase with ⟨-,-,-,hx⟩ | ⟨-,hx⟩
  ·exact hx
  ·exact hx.mono fun _ _ _ h=>h.elim
 have hmem:∀ y∈f',y∈fp₁∨y∈gp₁:=fun y hy=>mem_append.1 (hperm.mem_iff.1 hy)
 have hnb:∀ y∈f',y.b≠b:=by
  intro y hy hyb
  simp only[map_cons,map_append,nodup_cons,mem_append,mem_cons] at hnd
  rcases hmem y hy with h | h
  ·exact hnd.1 (.inl (mem_map.2 ⟨y,h,hyb⟩))
  ·exact hnd.1 (.inr (.inr (mem_map.2 ⟨y,h,hyb⟩)))
 have hnf:(f'.map Fe.b).Nodup:=by
  refine ((hperm.map Fe.b).nodup_iff).2 ?_
  simp only[map_cons,map_append,nodup_cons] at hnd
  refine List.Nodup.sublist ?_ hnd.2
  rw[map_append]
  exact List.Sublist.append (List.Sublist.refl _) (List.sublist_cons_self _ _)
 have hR' :=hins.turn hx (fun b' t hb' h=>hz (h.1 ▸ hb')) (Lt' :=noLt) (g' :=0) (.inl ⟨rfl,rfl,fun _ _ h=>h.elim⟩) (fun y hy t _ _ h=>hnb y hy h.1)
 have hz':¬ Fz b' :=by
  rcases hcase with ⟨rfl,-⟩ | ⟨hge,-⟩
  ·exact hz
  ·intro h
   have:=hF _ h
   omega
 have hown:R _ Fz noLt 0 [.sl .own el] [.lst (n+1) (cs.take (i * el.length)++ds++cs.drop (i * el.length))] [.slice (some ⟨b',off',none⟩) (n+1) cap'] (⟨b',off',off'+(n+1) * el.length,off'+(n+1) * el.length,off'+cap' * el.length⟩::f'++[]) :=
  .slO h0 hb' hz' (fun _ _ h=>h.elim) hcap' hseg hsz' (fun _=>hfr') hR' .nil
 rw[append_nil] at hown
 refine ⟨hx.mono (fun b' t _ h=>⟨_,mem_append_left _ (mem_cons_self ..),h.1.symm,h.2.1,by show t<off+cap * el.length;omega⟩),noLt,0,[_],[],⟨_,.cons (show AD false _ [_] from rfl) hown .nil,rfl⟩,.io (f:=[]) (show AD false _ [_] from rfl) (.dead .nil) (.val (.io (f:=[]) (show AD false _ [_] from rfl) (.dead .nil) .nil)),?_,?_⟩
 ·simp only[flatten_cons,flatten_nil,append_nil,map_cons,nodup_cons]
  refine ⟨?_,hnf⟩
  intro h
  obtain ⟨y,hy,hyb⟩:=mem_map.1 h
  rcases hcase with ⟨rfl,-⟩ | ⟨hge,-⟩
  ·exact hnb y hy hyb
  ·have:y.b<w.heap.size:=by
    rcases hmem y hy with h | h
    ·exact (hi.lt y h).1
    ·exact (ki.lt y h).1
   have hyb:y.b=b' :=hyb
   omega
 ·intro y hy
  simp only[flatten_cons,flatten_nil,append_nil,mem_cons] at hy
  rcases hy with rfl | hy
  ·rcases hcase with ⟨rfl,rfl,rfl,-⟩ | ⟨hge,-⟩
   ·exact .inr ⟨_,mem_append_left _ (mem_cons_self ..),rfl,Nat.le_refl _,Nat.le_refl _⟩
   ·exact .inl hge
  ·rcases hmem y hy with h | h
   ·exact .inr ⟨y,by simp[h],rfl,Nat.le_refl _,Nat.le_refl _⟩
   ·exact .inr ⟨y,by simp[h],rfl,Nat.le_refl _,Nat.le_refl _⟩
theorem Ek {P:Program} {w:World} {dT sT ty e:TypeId} {i:TypeInfo} (ht:P.underlying dT=some (.slice e)) (hi:P.info? e=some i) {b o dl dc sb so sl sc m:Nat} {row srow:Array Value} {be se:TypeId} {fr sfr:Nat × Nat}
  (hb:w.heap[b]?=some (.cells row be fr)) (hsb:w.heap[sb]?=some (.cells srow se sfr)) (hm:Nat.min sl dl=m) (h1:o+m * i.size≤row.size) (h2:so+m * i.size≤srow.size)
  (hf:∀ j,o≤j→¬ (fr.1≤j∧j<fr.2)) (hone:∀ v∈seg srow so (m * i.size),v.oneCell'=true) :
  (Builtin.copy_ #[dT,sT] ty #[.slice (some ⟨b,o,none⟩) dl dc,.slice (some ⟨sb,so,none⟩) sl sc]).run P w = .ok (goInt m) (EY w b o (seg srow so (m * i.size))):=by
 have hl:=El (P:=P) hsb h2
 have hlen:=Ed h2
 have hst:=EC (P:=P) (seg srow so (m * i.size)) w b o 0 row be fr hb (by omega) (fun j a _=>hf j (by omega)) hone
 simp only[Nat.add_zero] at hst
 simp[Builtin.copy_,run_underlying ht,Builtin.lenOf,Builtin.firstCells,sizeOf,typeInfo,hi,hm,hl,hst]
theorem SZ {w:World} {b:Nat} {row:Array Value} {e:TypeId} {fr:Nat × Nat} (h:w.heap[b]?=some (.cells row e fr)):w.shape? b=some (e,row.size):=by
 simp[World.shape?,h]
end Go.Desk
end
