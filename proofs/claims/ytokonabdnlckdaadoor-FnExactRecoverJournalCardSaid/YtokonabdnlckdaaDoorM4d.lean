/- FnExactRecoverJournal holds: for every input the law returns true, and its arguments read as before; what its row lists is tied to the text. -/
import Derived.Test.YtokonabdnlckdaaDoorM4c
set_option linter.all false
set_option linter.unusedVariables false
open List (all_cons all_eq_true any_eq_false any_eq_true append_assoc append_nil cons_append count_append drop_drop drop_eq_getElem_cons drop_eq_nil_of_le drop_left' drop_zero flatMap_cons flatMap_def flatten_cons foldl_cons length_append length_cons length_eq_one_iff length_eq_zero_iff length_map length_nil length_singleton length_take mapM_cons map_append map_congr_left map_cons map_map map_nil mem_append mem_append_left mem_append_right mem_cons mem_cons_of_mem mem_cons_self mem_flatten mem_map mem_singleton nil_append nodup_append nodup_cons perm_append_comm perm_iff_count perm_middle replicate_succ take_append_drop take_left' take_length take_succ_cons take_zero)
section
namespace Go.Desk
open Go Go.Sort
set_option linter.unusedVariables false
theorem Pk {P:Program} {L:List String} {f g:Nat} (hr:Qv P f g)
  (hc:∀ s:List UInt8,s.length<1000000→(AZ 10 s).length≤1000000∧∃ callF,FnOk P L callF g∧callF g [⟨.val,⟨false,[.leaf],[.str s]⟩⟩,⟨.val,⟨false,[.leaf],[.int .u8 10]⟩⟩]=some ⟨[⟨false,[.sl .own [.leaf]],[.lst (AZ 10 s).length ((AZ 10 s).map .str)]⟩],[none,none]⟩) :
  FnOk P L (fun _ az=>Ev az) f:=by
 intro az r h0 w Fz xs mfp hA hnd hF hLd
 have h:Ev az=some r:=h0
 clear h0
 unfold Ev at h
 split at h
 case h_2=>cases h
 rename_i s
 split at h
 case isFalse=>cases h
 rename_i hs
 simp only[zS] at h
 subst h
 obtain ⟨hlen,callF,hok,hev⟩:=hc s hs
 obtain ⟨ps,p,hcut⟩:=Jj 10 s
 rw[hcut] at hev hlen ⊢
 cases hA with
 | @val _ x vs _ xs fs hcell hR hA =>
 cases hA with
 | nil =>
 have hcell:vs=[x]:=hcell
 subst hcell
 cases hR with
 | leaf hl hR =>
 cases hR
 simp only[AG] at hl
 subst hl
 have hn1:(ps++[p]).length=ps.length+1:=by simp
 have hcall:Calls P g #[.string ⟨⟨s⟩⟩,.int .u8 10] w fun e w'=>∃ b off cap,e = .returned (.slice (some ⟨b,off,none⟩) (ps.length+1) cap)∧ps.length+1≤cap∧w'.cell? ⟨b,off+ps.length,none⟩=some (.string ⟨⟨p⟩⟩) ∧
   (Ab w w' (fun _ _=>False)∧w.heap.size≤b∧∃ row e fr,w'.heap[b]?=some (.cells row e fr)∧¬ Fz b∧ps.length≤cap∧off+cap≤row.size∧(0<cap→∀ j,off≤j→¬ (fr.1≤j∧j<fr.2))∧LR (ps.map .str) (seg row off ps.length)):=by
  have:=hok _ _ hev w Fz [.string ⟨⟨s⟩⟩,.int .u8 10] [] (.val (vs:=[.string ⟨⟨s⟩⟩]) rfl (.leaf rfl .nil) (.val (vs:=[.int .u8 10]) rfl (.leaf rfl .nil) .nil)) (by simp) hF hLd
  rcases this with ⟨v,w',h1,-⟩ | ⟨-,h1⟩
  ·rw[hr.enter'] at h1;simp at h1
  refine h1.mono fun e w' he => ?_
  cases e with
  | returned v =>
    obtain ⟨hx,Lt,gg,fr,fo,hR,-,hnod,hnew⟩:=he
    obtain ⟨ys,hRs,hys⟩:=hR
    simp only at hys
    subst hys
    cases hRs with
    | @cons _ _ vs f1 _ _ _ hcells hR1 hr1 =>
      have hcells:vs=[v]:=hcells
      subst hcells
      cases hr1
      rw[hn1] at hR1
      cases hR1 with
      | @slO b off _ cap row ety frz _ _ vs' _ _ _ fp₁ fp₂ k0 hb hz hl hcap hseg hrow hfree hi hr2 =>
        cases hr2
        simp only[length_cons,length_nil,Nat.zero_add,Nat.mul_one] at hseg hrow hfree hl
        obtain ⟨-,hLR,-⟩:=hi.leavesLR
        rw[map_append] at hLR
        obtain ⟨hL1,hL2⟩:=hLR.split
        rw[length_map] at hL1 hL2
        subst hseg
        have e1:(seg row off (ps.length+1)).take ps.length=seg row off ps.length:=by
         have:=Bf (row:=row) (o:=off) (n:=ps.length+1) (i:=0) (m:=ps.length) (by omega)
         simpa using this
        rw[e1] at hL1
        have e2:(seg row off (ps.length+1))[ps.length]?=some (.string ⟨⟨p⟩⟩):=by
         have h5:((seg row off (ps.length+1)).drop ps.length)[0]?=some (.string ⟨⟨p⟩⟩):=by
          generalize (seg row off (ps.length+1)).drop ps.length=dd at hL2
          cases hL2 with
          | cons h6 h7 =>
            simp only[AG] at h6
            rw[h6];rfl
         simpa using h5
        rw[seg_getElem?,if_pos (by omega)] at e2
        refine ⟨b,off,cap,rfl,hcap,?_,?_,?_,row,ety,frz,hb,hz,by omega,hrow,hfree,hL1⟩
        ·simp only[World.cell?,hb]
         exact e2
        ·exact hx.mono (by simp[Mut])
        ·rcases hnew ⟨b,off,off+(ps.length+1),off+(ps.length+1),off+cap⟩ (by simp) with h8 | ⟨z,hz',-⟩
         ·exact h8
         ·simp at hz'
  | _=>exact he.elim
 refine .inr ⟨hr.enter _ _,?_⟩
 show Calls P f #[.string ⟨⟨s⟩⟩] w _
 refine (hr.run w ⟨⟨s⟩⟩ ⟨⟨p⟩⟩ ps.length _ hcall (fun b off cap w' q h => ?_) (by simp at hlen;omega)).mono ?_
 ·obtain ⟨h1,h2,row,e,fr,h3,h4⟩:=h
  exact ⟨h1.trans (Gr w' q) (fun _ _ h=>h) (fun _ _ _ h=>h),h2,row,e,fr,h3,h4⟩
 rintro e w' ⟨b,off,cap,rfl,h1,h2,row,ety,fr,h3,h4,h5,h6,h7,h8⟩
 have hmap:(ps++[p]).dropLast.map T.str=ps.map T.str:=by simp
 have hlast:(ps++[p]).getLastD []=p:=by simp
 have hlen1:(ps++[p]).length - 1=ps.length:=by simp
 rw[hmap,hlast,hlen1]
 have hR:R w' Fz noLt 0 [.sl .own [.leaf]] [.lst ps.length (ps.map T.str)] [.slice (some ⟨b,off,none⟩) ps.length cap] [⟨b,off,off+ps.length,off+ps.length,off+cap⟩]:=by
  have:=R.slO (w:=w') (Fz:=Fz) (Lt:=noLt) (g:=0) (el:=[.leaf]) (ps:=[]) (ts:=[]) (vs:=[]) (fp₂:=[]) (n:=ps.length) (cap:=cap) (off:=off) (cs:=ps.map T.str) (by simp) h3 h4 (fun _ _ h=>h.elim) h5 rfl (by simpa using h6) h7
   (by have:=h8.leaves (w:=w') (Fz:=Fz) (Lt:=noLt) (g:=0);simpa using this) .nil
  simpa using this
 refine ⟨h1.mono (by simp),noLt,0,[_,[]],[],⟨[_,_],.cons (show AD false _ [_] from rfl) hR (.cons (show AD false _ [_] from rfl) (.leaf rfl .nil) .nil),rfl⟩,.val .nil,by simp,fun x hx => ?_⟩
 simp at hx
 subst hx
 exact .inl h2
theorem FnOk.any {P:Program} {L:List String} {c:Nat→List Am→Option By} {f:Nat} (k:FnOk P [] c f):FnOk P L c f :=
 fun az r e w Fz xs mfp hA hn hF _=>k az r e w Fz xs mfp hA hn hF Laid.none
theorem LC {m:UInt8}:∀ {p:List UInt8},m ∉ p→AZ m p=[p]
 | [],_=>rfl
 | c::p,h=>by
   have h1:(c==m)=false:=by
    rw[beq_eq_false_iff_ne]
    rintro rfl
    exact h (mem_cons_self ..)
   unfold AZ
   rw[h1,LC (p:=p) fun hm=>h (mem_cons_of_mem _ hm)]
theorem Jk {m:UInt8} {r:List UInt8}:∀ {p:List UInt8},m ∉ p→AZ m (p++m::r)=p::AZ m r
 | [],_=>by simp[AZ]
 | c::p,h=>by
   have h1:(c==m)=false:=by
    rw[beq_eq_false_iff_ne]
    rintro rfl
    exact h (mem_cons_self ..)
   rw[cons_append]
   conv=>lhs;unfold AZ
   rw[h1,Jk (p:=p) fun hm=>h (mem_cons_of_mem _ hm)]
theorem HX (m:UInt8):∀ s,(AZ m s).length≤s.length+1
 | []=>by simp[AZ]
 | c::r=>by
   have:=HX m r
   unfold AZ
   cases c==m with
   | true=>simp;omega
   | false =>
     cases h:AZ m r with
     | nil=>simp
     | cons p ps=>rw[h] at this;simp at this ⊢;omega
end Go.Desk
end
