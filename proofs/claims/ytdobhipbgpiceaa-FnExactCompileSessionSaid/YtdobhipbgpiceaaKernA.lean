/- A reading of the loaded code over plain data, and its soundness (part 1 of 4). Own work of this workplace, put together by program. -/
import Derived.Calls
import Derived.Orders
import Derived.Laws.Sem
import Derived.Laws.World
import Derived.Laws.Entries
import Derived.Below
import Derived.Laws.FloatArith
import Derived.Laws.Strings
import Derived.Laws.StructEq
set_option linter.all false
section
namespace Go.Desk
open Go
def isNaN (k:FloatKind) (b:Nat):Bool:=(k.decode b).isNaN
def qnan:FloatKind→Nat
 | .f32=>2143289344
 | .f64=>9221120237041090560
def canon (k:FloatKind) (b:Nat):Nat:=if isNaN k b then qnan k else b
inductive Fl where
 | own | shr | lent (g:Nat)
inductive Pm where
 | leaf
 | dead
 | sl (fl:Fl) (el:List Pm)
 | rf (fl:Fl) (el:List Pm)
 | fn (caps:List Pm)
inductive T where
 | int (k:IntKind) (n:Int)
 | bool (b:Bool)
 | flt (k:FloatKind) (x:Nat)
 | str (s:List UInt8)
 | nil
 | opq
 | lst (n:Nat) (cs:List T)
 | ref (cs:List T)
 | fn (f:Nat) (caps:List T)
def LeafRel:T→Value→Prop
 | .int k n,v=>v = .int k n
 | .bool b,v=>v = .bool b
 | .flt k x,v=>∃ b,v = .float k b∧canon k b=x
 | .str s,v=>v = .string ⟨⟨s⟩⟩
 | .nil,v=>v = .pointer none∨v = .nilFunc∨v = .nilIface
 | .opq,v=>∃ b:Nat,isNaN .f64 b=true∧v = .int .u64 b
 | _,_=>False
structure Fe where
 b:Nat
 lo:Nat
 hi:Nat
 l:Nat
 t:Nat
 deriving DecidableEq
abbrev Fp:=List Fe
def rep (n:Nat) (el:List Pm):List Pm:=(List.replicate n el).flatten
def seg (row:Array Value) (off n:Nat):List Value:=(row.toList.drop off).take n
inductive R (w:World) (Fz:Nat→Prop) (Lt:Nat→Nat→Prop) (g:Nat):List Pm→List T→List Value→Fp→Prop
 | nil:R w Fz Lt g [] [] [] []
 | leaf {t v ps ts vs fp} (h:LeafRel t v) (r:R w Fz Lt g ps ts vs fp):R w Fz Lt g (.leaf::ps) (t::ts) (v::vs) fp
 | dead {t v ps ts vs fp} (r:R w Fz Lt g ps ts vs fp):R w Fz Lt g (.dead::ps) (t::ts) (v::vs) fp
 | slE {fl el a cap ps ts vs fp} (h:fl = .own→a=none∧cap=0) (r:R w Fz Lt g ps ts vs fp) :
    R w Fz Lt g (.sl fl el::ps) (.lst 0 []::ts) (.slice a 0 cap::vs) fp
 | slS {b off n cap row e fr el cs vs' ps ts vs fp} (h0:0<el.length) (hb:w.heap[b]?=some (.cells row e fr)) (hz:Fz b) (hn:n≤cap)
    (hs:seg row off (n * el.length)=vs') (hr:off+n * el.length≤row.size) (hi:R w Fz Lt g (rep n el) cs vs' []) (r:R w Fz Lt g ps ts vs fp) :
    R w Fz Lt g (.sl .shr el::ps) (.lst n cs::ts) (.slice (some ⟨b,off,none⟩) n cap::vs) fp
 | slL {b off n cap row e fr el cs vs' ps ts vs fp} (h0:0<el.length) (hb:w.heap[b]?=some (.cells row e fr)) (hl:∀ j,off≤j→j<off+n * el.length→Lt b j) (hn:n≤cap)
    (hs:seg row off (n * el.length)=vs') (hr:off+n * el.length≤row.size) (hi:R w Fz Lt g (rep n el) cs vs' []) (r:R w Fz Lt g ps ts vs fp) :
    R w Fz Lt g (.sl (.lent g) el::ps) (.lst n cs::ts) (.slice (some ⟨b,off,none⟩) n cap::vs) fp
 | slH {fl el a n cap ps ts vs fp} (r:R w Fz Lt g ps ts vs fp):R w Fz Lt g (.sl fl el::ps) (.nil::ts) (.slice a n cap::vs) fp
 | slX {g' el t v ps ts vs fp} (h:g'<g) (r:R w Fz Lt g ps ts vs fp):R w Fz Lt g (.sl (.lent g') el::ps) (t::ts) (v::vs) fp
 | slO {b off n cap row e fr el cs vs' ps ts vs fp₁ fp₂} (h0:0<el.length) (hb:w.heap[b]?=some (.cells row e fr)) (hz:¬ Fz b) (hl:∀ j,off+n * el.length≤j→¬ Lt b j) (hn:n≤cap)
    (hs:seg row off (n * el.length)=vs') (hr:off+cap * el.length≤row.size) (hf:∀ j,off≤j→j<off+cap * el.length→¬ (fr.1≤j∧j<fr.2))
    (hi:R w Fz Lt g (rep n el) cs vs' fp₁) (r:R w Fz Lt g ps ts vs fp₂) :
    R w Fz Lt g (.sl .own el::ps) (.lst n cs::ts) (.slice (some ⟨b,off,none⟩) n cap::vs) (⟨b,off,off+n * el.length,off+n * el.length,off+cap * el.length⟩::fp₁++fp₂)
 | rfS {b off row e fr el cs vs' ps ts vs fp} (h0:0<el.length) (hb:w.heap[b]?=some (.cells row e fr)) (hz:Fz b)
    (hs:seg row off el.length=vs') (hr:off+el.length≤row.size) (hi:R w Fz Lt g el cs vs' []) (r:R w Fz Lt g ps ts vs fp) :
    R w Fz Lt g (.rf .shr el::ps) (.ref cs::ts) (.pointer (some ⟨b,off,none⟩)::vs) fp
 | rfL {b off row e fr el cs vs' ps ts vs fp} (h0:0<el.length) (hb:w.heap[b]?=some (.cells row e fr)) (hl:∀ j,off≤j→j<off+el.length→Lt b j)
    (hs:seg row off el.length=vs') (hr:off+el.length≤row.size) (hi:R w Fz Lt g el cs vs' []) (r:R w Fz Lt g ps ts vs fp) :
    R w Fz Lt g (.rf (.lent g) el::ps) (.ref cs::ts) (.pointer (some ⟨b,off,none⟩)::vs) fp
 | rfO {b off row e fr el cs vs' ps ts vs fp₁ fp₂} (h0:0<el.length) (hb:w.heap[b]?=some (.cells row e fr)) (hz:¬ Fz b) (hl:∀ j,¬ Lt b j)
    (hs:seg row off el.length=vs') (hr:off+el.length≤row.size) (hf:∀ j,off≤j→j<off+el.length→¬ (fr.1≤j∧j<fr.2))
    (hi:R w Fz Lt g el cs vs' fp₁) (r:R w Fz Lt g ps ts vs fp₂) :
    R w Fz Lt g (.rf .own el::ps) (.ref cs::ts) (.pointer (some ⟨b,off,none⟩)::vs) (⟨b,off,off+el.length,0,off+el.length⟩::fp₁++fp₂)
 | rfX {g' el t v ps ts vs fp} (h:g'<g) (r:R w Fz Lt g ps ts vs fp):R w Fz Lt g (.rf (.lent g') el::ps) (t::ts) (v::vs) fp
 | fnv {f cps cts caps ps ts vs fp} (hi:R w Fz Lt g cps cts caps []) (r:R w Fz Lt g ps ts vs fp) :
    R w Fz Lt g (.fn cps::ps) (.fn f cts::ts) (.func (.func f) #[] caps.toArray::vs) fp
end Go.Desk
end
section
namespace Go.Desk
open Go
theorem seg_length {row:Array Value} {off n:Nat} (h:off+n≤row.size):(seg row off n).length=n:=by
 simp[seg];omega
theorem seg_getElem? {row:Array Value} {off n i:Nat}:(seg row off n)[i]?=if i<n then row[off+i]? else none:=by
 simp[seg,List.getElem?_take,List.getElem?_drop]
theorem seg_congr {row row':Array Value} {off n:Nat} (h:∀ j,off≤j→j<off+n→row'[j]?=row[j]?):seg row' off n=seg row off n:=by
 apply List.ext_getElem?
 intro i
 rw[seg_getElem?,seg_getElem?]
 split
 ·exact h _ (by omega) (by omega)
 ·rfl
structure Ext (w w':World) (W:Nat→Nat→Prop):Prop where
 os:w'.os=w.os
 tape:w'.tape=w.tape
 output:w'.output=w.output
 size:w.heap.size≤w'.heap.size
 cells:∀ (b:Nat) row e fr,w.heap[b]?=some (.cells row e fr)→∃ row',w'.heap[b]?=some (.cells row' e fr)∧row'.size=row.size∧∀ j,¬ W b j→row'[j]?=row[j]?
 other:∀ (b:Nat) (o:Obj),w.heap[b]?=some o→(∀ row e fr,o≠Obj.cells row e fr)→w'.heap[b]?=some o
theorem Ext.refl (w:World) (W:Nat→Nat→Prop):Ext w w W :=
 ⟨rfl,rfl,rfl,Nat.le_refl _,fun _ row _ _ h=>⟨row,h,rfl,fun _ _=>rfl⟩,fun _ _ h _=>h⟩
theorem Ext.trans {w w' w'':World} {W W' W'':Nat→Nat→Prop} (h:Ext w w' W) (k:Ext w' w'' W')
  (h1:∀ b j,W b j→W'' b j) (h2:∀ b j,b<w.heap.size→W' b j→W'' b j):Ext w w'' W'' :=by
 refine ⟨k.os.trans h.os,k.tape.trans h.tape,k.output.trans h.output,Nat.le_trans h.size k.size,?_,?_⟩
 ·intro b row e fr hb
  obtain ⟨r1,a1,a2,a3⟩:=h.cells b row e fr hb
  obtain ⟨r2,c1,c2,c3⟩:=k.cells b r1 e fr a1
  refine ⟨r2,c1,c2.trans a2,fun j hj => ?_⟩
  have hlt:b<w.heap.size:=by
   rcases Nat.lt_or_ge b w.heap.size with h | h
   ·exact h
   ·simp[Array.getElem?_eq_none h] at hb
  rw[c3 j (fun x=>hj (h2 _ _ hlt x)),a3 j (fun x=>hj (h1 _ _ x))]
 ·intro b o hb ho
  exact k.other b o (h.other b o hb ho) ho
theorem Ext.mono {w w':World} {W W':Nat→Nat→Prop} (h:Ext w w' W) (hw:∀ b j,b<w.heap.size→W b j→W' b j):Ext w w' W' :=by
 refine ⟨h.os,h.tape,h.output,h.size,?_,h.other⟩
 intro b row e fr hb
 obtain ⟨r1,a1,a2,a3⟩:=h.cells b row e fr hb
 have hlt:b<w.heap.size:=by
  rcases Nat.lt_or_ge b w.heap.size with h | h
  ·exact h
  ·simp[Array.getElem?_eq_none h] at hb
 exact ⟨r1,a1,a2,fun j hj=>a3 j fun x=>hj (hw _ _ hlt x)⟩
theorem Ext.below {w w':World} {W:Nat→Nat→Prop} {B:Nat} (h:Ext w w' W) (hw:∀ b j,W b j→B≤b) (hB:B≤w.heap.size):RowKit.Below B w w' :=by
 refine ⟨h.os,h.tape,h.output,h.size,fun k hk => ?_⟩
 have hlt:k<w.heap.size:=by omega
 obtain ⟨o,ho⟩:∃ o,w.heap[k]?=some o:=⟨_,Array.getElem?_eq_getElem hlt⟩
 by_cases hc:∃ row e fr,o=Obj.cells row e fr
 ·obtain ⟨row,e,fr,rfl⟩:=hc
  obtain ⟨r1,a1,a2,a3⟩:=h.cells k row e fr ho
  rw[a1,ho]
  congr 2
  apply Array.ext_getElem?
  intro j
  exact a3 j fun x=>by have:=hw _ _ x;omega
 ·rw[h.other k o ho (fun row e fr he=>hc ⟨row,e,fr,he⟩),ho]
theorem Ext.drew {w w':World} {W:Nat→Nat→Prop} (h:Ext w w' W):Ext w w'.drew W:=⟨h.os,h.tape,h.output,h.size,h.cells,h.other⟩
theorem Ext.alloc (w:World) (o:Obj) (W:Nat→Nat→Prop):Ext w (w.alloc o) W:=by
 refine ⟨rfl,rfl,rfl,by simp,fun b row e fr hb=>⟨row,?_,rfl,fun _ _=>rfl⟩,fun b o' hb _ => ?_⟩
 all_goals
  have hlt:b<w.heap.size:=by
   rcases Nat.lt_or_ge b w.heap.size with h | h
   ·exact h
   ·simp[Array.getElem?_eq_none h] at hb
  rw[RowKit.Below.heap_alloc _ _ _ hlt,hb]
theorem Ext.setCell (w:World) (a:Addr) (v:Value):Ext w (w.setCell a v) (fun b j=>b=a.block∧j=a.off):=by
 refine ⟨rfl,rfl,rfl,by simp,fun b row e fr hb => ?_,fun b o hb ho => ?_⟩
 ·by_cases h:b=a.block
  ·subst h
   refine ⟨if a.spot.isSome then row else row.setIfInBounds a.off v,?_,?_,?_⟩
   ·simp only[World.setCell,Array.getElem?_modify]
    rw[if_pos trivial,hb];rfl
   ·split <;>simp
   ·intro j hj
    split
    ·rfl
    ·rw[Array.getElem?_setIfInBounds_ne]
     intro e;exact hj ⟨rfl,e.symm⟩
  ·refine ⟨row,?_,rfl,fun _ _=>rfl⟩
   rw[RowKit.Below.heap_setCell _ _ _ _ h,hb]
 ·by_cases h:b=a.block
  ·subst h
   simp only[World.setCell,Array.getElem?_modify]
   rw[if_pos trivial,hb]
   cases o with
   | cells row e fr=>exact absurd rfl (ho row e fr)
   | _=>rfl
  ·rw[RowKit.Below.heap_setCell _ _ _ _ h,hb]
section
variable {w w':World} {Fz Fz':Nat→Prop} {Lt Lt':Nat→Nat→Prop} {g:Nat}
theorem R.lengths {ps ts vs fp} (h:R w Fz Lt g ps ts vs fp):ps.length=ts.length∧ts.length=vs.length:=by
 induction h <;>simp_all
theorem R.mono {W:Nat→Nat→Prop} {ps ts vs fp} (h:R w Fz Lt g ps ts vs fp) (hx:Ext w w' W)
  (hF:∀ b,Fz b→Fz' b) (hL:∀ b j,Lt b j→Lt' b j)
  (wF:∀ b j,Fz b→¬ W b j) (wL:∀ b j,Lt b j→¬ W b j)
  (hp:∀ f∈fp,(∀ j,f.lo≤j→j<f.hi→¬ W f.b j)∧¬ Fz' f.b∧∀ j,f.l≤j→¬ Lt' f.b j):R w' Fz' Lt' g ps ts vs fp:=by
 induction h with
 | nil=>exact .nil
 | leaf h _ ih=>exact .leaf h (ih hp)
 | dead _ ih=>exact .dead (ih hp)
 | slE h _ ih=>exact .slE h (ih hp)
 | @slS b off n cap row e fr el cs vs' ps ts vs fp h0 hb hz hn hs hr hi _ ih1 ih2 =>
   obtain ⟨row',c1,c2,c3⟩:=hx.cells b row e fr hb
   exact .slS h0 c1 (hF _ hz) hn (by rw[← hs];exact seg_congr fun j _ _=>c3 j (wF _ _ hz)) (by omega) (ih1 (by simp)) (ih2 hp)
 | @slL b off n cap row e fr el cs vs' ps ts vs fp h0 hb hl hn hs hr hi _ ih1 ih2 =>
   obtain ⟨row',c1,c2,c3⟩:=hx.cells b row e fr hb
   exact .slL h0 c1 (fun j a c=>hL _ _ (hl j a c)) hn (by rw[← hs];exact seg_congr fun j a c=>c3 j (wL _ _ (hl j a c))) (by omega) (ih1 (by simp)) (ih2 hp)
 | slX h _ ih=>exact .slX h (ih hp)
 | slH _ ih=>exact .slH (ih hp)
 | @slO b off n cap row e fr el cs vs' ps ts vs fp₁ fp₂ h0 hb hz hl hn hs hr hf hi _ ih1 ih2 =>
   obtain ⟨row',c1,c2,c3⟩:=hx.cells b row e fr hb
   have hq:=hp ⟨b,off,off+n * el.length,off+n * el.length,off+cap * el.length⟩ (by simp)
   refine .slO h0 c1 hq.2.1 hq.2.2 hn (by rw[← hs];exact seg_congr fun j a c=>c3 j (hq.1 j a c)) (by omega) hf (ih1 fun f hf=>hp f (by simp[hf])) (ih2 fun f hf=>hp f (by simp[hf]))
 | @rfS b off row e fr el cs vs' ps ts vs fp h0 hb hz hs hr hi _ ih1 ih2 =>
   obtain ⟨row',c1,c2,c3⟩:=hx.cells b row e fr hb
   exact .rfS h0 c1 (hF _ hz) (by rw[← hs];exact seg_congr fun j _ _=>c3 j (wF _ _ hz)) (by omega) (ih1 (by simp)) (ih2 hp)
 | @rfL b off row e fr el cs vs' ps ts vs fp h0 hb hl hs hr hi _ ih1 ih2 =>
   obtain ⟨row',c1,c2,c3⟩:=hx.cells b row e fr hb
   exact .rfL h0 c1 (fun j a c=>hL _ _ (hl j a c)) (by rw[← hs];exact seg_congr fun j a c=>c3 j (wL _ _ (hl j a c))) (by omega) (ih1 (by simp)) (ih2 hp)
 | @rfO b off row e fr el cs vs' ps ts vs fp₁ fp₂ h0 hb hz hl hs hr hf hi _ ih1 ih2 =>
   obtain ⟨row',c1,c2,c3⟩:=hx.cells b row e fr hb
   have hq:=hp ⟨b,off,off+el.length,0,off+el.length⟩ (by simp)
   refine .rfO h0 c1 hq.2.1 (fun j=>hq.2.2 j (Nat.zero_le _)) (by rw[← hs];exact seg_congr fun j a c=>c3 j (hq.1 j a c)) (by omega) hf (ih1 fun f hf=>hp f (by simp[hf])) (ih2 fun f hf=>hp f (by simp[hf]))
 | rfX h _ ih=>exact .rfX h (ih hp)
 | fnv hi _ ih1 ih2=>exact .fnv (ih1 (by simp)) (ih2 hp)
theorem R.append {ps ts vs fp ps' ts' vs' fp'} (h:R w Fz Lt g ps ts vs fp) (k:R w Fz Lt g ps' ts' vs' fp') :
  R w Fz Lt g (ps++ps') (ts++ts') (vs++vs') (fp++fp'):=by
 induction h with
 | nil=>exact k
 | leaf h _ ih=>exact .leaf h ih
 | dead _ ih=>exact .dead ih
 | slE h _ ih=>exact .slE h ih
 | slS h0 hb hz hn hs hr hi _ _ ih=>exact .slS h0 hb hz hn hs hr hi ih
 | slL h0 hb hz hn hs hr hi _ _ ih=>exact .slL h0 hb hz hn hs hr hi ih
 | slX h _ ih=>exact .slX h ih
 | slH _ ih=>exact .slH ih
 | slO h0 hb hz hl hn hs hr hf hi _ _ ih =>
   have:=R.slO h0 hb hz hl hn hs hr hf hi ih
   simpa [List.append_assoc] using this
 | rfS h0 hb hz hs hr hi _ _ ih=>exact .rfS h0 hb hz hs hr hi ih
 | rfL h0 hb hz hs hr hi _ _ ih=>exact .rfL h0 hb hz hs hr hi ih
 | rfO h0 hb hz hl hs hr hf hi _ _ ih =>
   have:=R.rfO h0 hb hz hl hs hr hf hi ih
   simpa [List.append_assoc] using this
 | rfX h _ ih=>exact .rfX h ih
 | fnv hi _ _ ih=>exact .fnv hi ih
theorem R.split:∀ {ps ps' ts vs fp},R w Fz Lt g (ps++ps') ts vs fp →
  ∃ t1 t2 v1 v2 f1 f2,ts=t1++t2∧vs=v1++v2∧fp=f1++f2∧R w Fz Lt g ps t1 v1 f1∧R w Fz Lt g ps' t2 v2 f2
 | [],_,ts,vs,fp,h=>⟨[],ts,[],vs,[],fp,rfl,rfl,rfl,.nil,h⟩
 | p::ps,ps',ts,vs,fp,h=>by
   cases h with
   | leaf h r=>obtain ⟨t1,t2,v1,v2,f1,f2,rfl,rfl,rfl,a,b⟩:=R.split r;exact ⟨_::t1,t2,_::v1,v2,f1,f2,rfl,rfl,rfl,.leaf h a,b⟩
   | dead r=>obtain ⟨t1,t2,v1,v2,f1,f2,rfl,rfl,rfl,a,b⟩:=R.split r;exact ⟨_::t1,t2,_::v1,v2,f1,f2,rfl,rfl,rfl,.dead a,b⟩
   | slE h r=>obtain ⟨t1,t2,v1,v2,f1,f2,rfl,rfl,rfl,a,b⟩:=R.split r;exact ⟨_::t1,t2,_::v1,v2,f1,f2,rfl,rfl,rfl,.slE h a,b⟩
   | slS h0 hb hz hn hs hr hi r=>obtain ⟨t1,t2,v1,v2,f1,f2,rfl,rfl,rfl,a,b⟩:=R.split r;exact ⟨_::t1,t2,_::v1,v2,f1,f2,rfl,rfl,rfl,.slS h0 hb hz hn hs hr hi a,b⟩
   | slL h0 hb hz hn hs hr hi r=>obtain ⟨t1,t2,v1,v2,f1,f2,rfl,rfl,rfl,a,b⟩:=R.split r;exact ⟨_::t1,t2,_::v1,v2,f1,f2,rfl,rfl,rfl,.slL h0 hb hz hn hs hr hi a,b⟩
   | slX h r=>obtain ⟨t1,t2,v1,v2,f1,f2,rfl,rfl,rfl,a,b⟩:=R.split r;exact ⟨_::t1,t2,_::v1,v2,f1,f2,rfl,rfl,rfl,.slX h a,b⟩
   | slH r=>obtain ⟨t1,t2,v1,v2,f1,f2,rfl,rfl,rfl,a,b⟩:=R.split r;exact ⟨_::t1,t2,_::v1,v2,f1,f2,rfl,rfl,rfl,.slH a,b⟩
   | slO h0 hb hz hl hn hs hr hf hi r =>
     obtain ⟨t1,t2,v1,v2,f1,f2,rfl,rfl,rfl,a,b⟩:=R.split r
     exact ⟨_::t1,t2,_::v1,v2,_,f2,rfl,rfl,by simp[List.append_assoc],.slO h0 hb hz hl hn hs hr hf hi a,b⟩
   | rfS h0 hb hz hs hr hi r=>obtain ⟨t1,t2,v1,v2,f1,f2,rfl,rfl,rfl,a,b⟩:=R.split r;exact ⟨_::t1,t2,_::v1,v2,f1,f2,rfl,rfl,rfl,.rfS h0 hb hz hs hr hi a,b⟩
   | rfL h0 hb hz hs hr hi r=>obtain ⟨t1,t2,v1,v2,f1,f2,rfl,rfl,rfl,a,b⟩:=R.split r;exact ⟨_::t1,t2,_::v1,v2,f1,f2,rfl,rfl,rfl,.rfL h0 hb hz hs hr hi a,b⟩
   | rfO h0 hb hz hl hs hr hf hi r =>
     obtain ⟨t1,t2,v1,v2,f1,f2,rfl,rfl,rfl,a,b⟩:=R.split r
     exact ⟨_::t1,t2,_::v1,v2,_,f2,rfl,rfl,by simp[List.append_assoc],.rfO h0 hb hz hl hs hr hf hi a,b⟩
   | rfX h r=>obtain ⟨t1,t2,v1,v2,f1,f2,rfl,rfl,rfl,a,b⟩:=R.split r;exact ⟨_::t1,t2,_::v1,v2,f1,f2,rfl,rfl,rfl,.rfX h a,b⟩
   | fnv hi r=>obtain ⟨t1,t2,v1,v2,f1,f2,rfl,rfl,rfl,a,b⟩:=R.split r;exact ⟨_::t1,t2,_::v1,v2,f1,f2,rfl,rfl,rfl,.fnv hi a,b⟩
theorem R.length_eq {ps ts vs fp} (h:R w Fz Lt g ps ts vs fp):ts.length=ps.length∧vs.length=ps.length:=by
 have:=h.lengths;omega
theorem R.lt {ps ts vs fp} (h:R w Fz Lt g ps ts vs fp):∀ f∈fp,f.b<w.heap.size∧f.lo≤f.hi∧f.hi≤f.t∧¬ Fz f.b:=by
 have key:∀ {b:Nat} {o},w.heap[b]?=some o→b<w.heap.size:=by
  intro b o hb
  rcases Nat.lt_or_ge b w.heap.size with h | h
  ·exact h
  ·simp[Array.getElem?_eq_none h] at hb
 induction h with
 | nil=>simp
 | slO h0 hb hz hl hn hs hr hf hi _ ih1 ih2 =>
   intro f hf'
   simp only[List.cons_append,List.mem_cons,List.mem_append] at hf'
   rcases hf' with rfl | hf' | hf'
   ·exact ⟨key hb,Nat.le_add_right _ _,Nat.add_le_add_left (Nat.mul_le_mul_right _ hn) _,hz⟩
   ·exact ih1 f hf'
   ·exact ih2 f hf'
 | rfO h0 hb hz hl hs hr hf hi _ ih1 ih2 =>
   intro f hf'
   simp only[List.cons_append,List.mem_cons,List.mem_append] at hf'
   rcases hf' with rfl | hf' | hf'
   ·exact ⟨key hb,Nat.le_add_right _ _,Nat.le_refl _,hz⟩
   ·exact ih1 f hf'
   ·exact ih2 f hf'
 | leaf _ _ ih=>exact ih
 | dead _ ih=>exact ih
 | slE _ _ ih=>exact ih
 | slS _ _ _ _ _ _ _ _ _ ih=>exact ih
 | slL _ _ _ _ _ _ _ _ _ ih=>exact ih
 | slX _ _ ih=>exact ih
 | slH _ ih=>exact ih
 | rfS _ _ _ _ _ _ _ _ ih=>exact ih
 | rfL _ _ _ _ _ _ _ _ ih=>exact ih
 | rfX _ _ ih=>exact ih
 | fnv _ _ _ ih=>exact ih
theorem R.noLtAbove {ps ts vs fp} (h:R w Fz Lt g ps ts vs fp):∀ f∈fp,∀ j,f.l≤j→¬ Lt f.b j:=by
 induction h with
 | nil=>simp
 | slO h0 hb hz hl hn hs hr hf hi _ ih1 ih2 =>
   intro f hf'
   simp only[List.cons_append,List.mem_cons,List.mem_append] at hf'
   rcases hf' with rfl | hf' | hf'
   ·exact hl
   ·exact ih1 f hf'
   ·exact ih2 f hf'
 | rfO h0 hb hz hl hs hr hf hi _ ih1 ih2 =>
   intro f hf'
   simp only[List.cons_append,List.mem_cons,List.mem_append] at hf'
   rcases hf' with rfl | hf' | hf'
   ·exact fun j _=>hl j
   ·exact ih1 f hf'
   ·exact ih2 f hf'
 | leaf _ _ ih=>exact ih
 | dead _ ih=>exact ih
 | slE _ _ ih=>exact ih
 | slS _ _ _ _ _ _ _ _ _ ih=>exact ih
 | slL _ _ _ _ _ _ _ _ _ ih=>exact ih
 | slX _ _ ih=>exact ih
 | slH _ ih=>exact ih
 | rfS _ _ _ _ _ _ _ _ ih=>exact ih
 | rfL _ _ _ _ _ _ _ _ ih=>exact ih
 | rfX _ _ ih=>exact ih
 | fnv _ _ _ ih=>exact ih
end
end Go.Desk
end
section
namespace Go.Desk
open Go
mutual
def Pm.noOwn:Pm→Bool
 | .leaf=>true
 | .dead=>true
 | .sl .own _=>false
 | .sl .shr el=>noOwns el
 | .sl (.lent _) el=>noOwns el
 | .rf .own _=>false
 | .rf .shr el=>noOwns el
 | .rf (.lent _) el=>noOwns el
 | .fn caps=>noOwns caps
def noOwns:List Pm→Bool
 | []=>true
 | p::ps=>p.noOwn&&noOwns ps
end
mutual
def Pm.noLent:Pm→Bool
 | .leaf=>true
 | .dead=>true
 | .sl (.lent _) _=>false
 | .sl .own el=>noLents el
 | .sl .shr el=>noLents el
 | .rf (.lent _) _=>false
 | .rf .own el=>noLents el
 | .rf .shr el=>noLents el
 | .fn caps=>noLents caps
def noLents:List Pm→Bool
 | []=>true
 | p::ps=>p.noLent&&noLents ps
end
mutual
def Pm.clean:Pm→Bool
 | .leaf=>true
 | .sl .own el=>cleans el
 | _=>false
def cleans:List Pm→Bool
 | []=>true
 | p::ps=>p.clean&&cleans ps
end
mutual
def Pm.share:Pm→Pm
 | .leaf => .leaf
 | .dead => .dead
 | .sl (.lent _) _ => .dead
 | .sl _ el => .sl .shr (shares el)
 | .rf (.lent _) _ => .dead
 | .rf _ el => .rf .shr (shares el)
 | .fn caps => .fn (shares caps)
def shares:List Pm→List Pm
 | []=>[]
 | p::ps=>p.share::shares ps
end
mutual
def Pm.shareG (g:Nat):Pm→Pm
 | .leaf => .leaf
 | .dead => .dead
 | .sl (.lent g') el=>if g'=g then .sl .shr (sharesG g el) else .dead
 | .sl _ el => .sl .shr (sharesG g el)
 | .rf (.lent g') el=>if g'=g then .rf .shr (sharesG g el) else .dead
 | .rf _ el => .rf .shr (sharesG g el)
 | .fn caps => .fn (sharesG g caps)
def sharesG (g:Nat):List Pm→List Pm
 | []=>[]
 | p::ps=>p.shareG g::sharesG g ps
end
mutual
def Pm.lentify (g:Nat):Pm→Pm
 | .leaf => .leaf
 | .dead => .dead
 | .sl .own el => .sl (.lent g) (lentifies g el)
 | .sl .shr el => .sl .shr el
 | .sl (.lent g') el => .sl (.lent g') el
 | .rf .own _ => .dead
 | .rf .shr el => .rf .shr el
 | .rf (.lent g') el => .rf (.lent g') el
 | .fn caps => .fn caps
def lentifies (g:Nat):List Pm→List Pm
 | []=>[]
 | p::ps=>p.lentify g::lentifies g ps
end
def Fl.beq:Fl→Fl→Bool
 | .own,.own=>true
 | .shr,.shr=>true
 | .lent a,.lent b=>a==b
 | _,_=>false
mutual
def Pm.beq:Pm→Pm→Bool
 | .leaf,.leaf=>true
 | .dead,.dead=>true
 | .sl f a,.sl f' b=>f.beq f'&&pbeqs a b
 | .rf f a,.rf f' b=>f.beq f'&&pbeqs a b
 | .fn a,.fn b=>pbeqs a b
 | _,_=>false
def pbeqs:List Pm→List Pm→Bool
 | [],[]=>true
 | p::ps,q::qs=>p.beq q&&pbeqs ps qs
 | _,_=>false
end
def Pm.firm (g:Nat):Pm→Bool
 | .dead=>false
 | .sl (.lent g') _=>g'==g
 | .rf (.lent g') _=>g'==g
 | _=>true
def Fl.live (g:Nat):Fl→Bool
 | .lent g'=>g'==g
 | _=>true
def firms (g:Nat):List Pm→Bool
 | []=>true
 | p::ps=>p.firm g&&firms g ps
def nodupNat:List Nat→Bool
 | []=>true
 | x::xs => !(xs.any fun y=>x==y)&&nodupNat xs
structure V where
 agg:Bool
 p:List Pm
 cs:List T
abbrev Dirt:=List (List Nat × Nat × Nat)
structure Place where
 path:List (Nat × Nat)
 e:Nat
 c:Nat
 n:Nat
 agg:Bool
inductive Slot where
 | dead
 | und
 | gone
 | val (agg:Bool) (p:List Pm) (cs:List T) (d:Dirt) (pin:Nat)
 | tup (n:Nat)
 | box (p:List Pm) (cs:List T) (d:Dirt) (pin:Nat)
 | view (k:Nat) (pl:Place)
 | ptr (k:Nat) (pl:Place)
 | clo (f:Nat) (caps:List (Nat × Place))
def ix (sz e c:Nat):Nat:=match sz with
 | 1=>e
 | _=>e * sz+c
def getN (cs:List T) (i:Nat):Nat→Option (List T)
 | 0=>some []
 | n+1=>match cs[i]? with
   | none=>none
   | some t=>match getN cs (i+1) n with
     | none=>none
     | some r=>some (t::r)
def setN (cs:List T) (i:Nat):List T→List T
 | []=>cs
 | t::ts=>setN (cs.set i t) (i+1) ts
def rowAt:List Pm→List T→List (Nat × Nat)→Option (List Pm × List T)
 | ps,cs,[]=>some (ps,cs)
 | ps,cs,(e,c)::path=>match ps[c]? with
   | some (.sl .own el)=>match cs[ix ps.length e c]? with
     | some (.lst _ cs')=>rowAt el cs' path
     | _=>none
   | _=>none
def rowSet:List Pm→List T→List (Nat × Nat)→(List T→List T)→List T
 | _,cs,[],f=>f cs
 | ps,cs,(e,c)::path,f=>match ps[c]? with
   | some (.sl .own el)=>match cs[ix ps.length e c]? with
     | some (.lst n cs')=>cs.set (ix ps.length e c) (.lst n (rowSet el cs' path f))
     | _=>cs
   | _=>cs
def getP (ps:List Pm) (c:Nat):Nat→Option (List Pm)
 | 0=>some []
 | n+1=>match ps[c]? with
   | none=>none
   | some t=>match getP ps (c+1) n with
     | none=>none
     | some r=>some (t::r)
def setPs (ps:List Pm) (c:Nat):List Pm→List Pm
 | []=>ps
 | t::ts=>setPs (ps.set c t) (c+1) ts
def atPlace (ps:List Pm) (cs:List T) (pl:Place):Option V :=
 match rowAt ps cs pl.path with
 | none=>none
 | some (el,rcs)=>match getP el pl.c pl.n with
   | none=>none
   | some p=>match getN rcs (ix el.length pl.e pl.c) pl.n with
     | none=>none
     | some c=>some ⟨pl.agg,p,c⟩
def cols (path:List (Nat × Nat)):List Nat:=path.map (·.2)
def dirtyTop:Dirt→Bool
 | []=>false
 | ([],_,_)::_=>true
 | _::d=>dirtyTop d
def dirtyRoot:Dirt→Bool
 | []=>false
 | ([],_,m)::d=>Nat.ble 1000000 m||dirtyRoot d
 | _::d=>dirtyRoot d
def stale (d:Dirt) (pl:Place):Bool:=match pl.path with
 | []=>dirtyTop d
 | _ => !d.isEmpty
def staleP (d:Dirt) (pl:Place):Bool:=match pl.path with
 | []=>dirtyRoot d
 | [_]=>dirtyTop d
 | _ => !d.isEmpty
def Slot.root:Slot→Option (List Pm × List T × Dirt)
 | .val _ p cs d _=>some (p,cs,d)
 | .box p cs d _=>some (p,cs,d)
 | _=>none
def Slot.looks:Slot→List Nat
 | .view k _=>[k]
 | .ptr k _=>[k]
 | .clo _ caps=>caps.map (·.1)
 | _=>[]
def Slot.withRoot (p:List Pm) (cs:List T) (d:Dirt):Slot→Slot
 | .val a _ _ _ pin => .val a p cs d pin
 | .box _ _ _ pin => .box p cs d pin
 | s=>s
def Slot.pinned:Slot→Bool
 | .val _ _ _ _ 0=>false
 | .box _ _ _ 0=>false
 | .val _ _ _ _ _=>true
 | .box _ _ _ _=>true
 | _=>false
structure AS where
 env:List (Nat × Slot)
 g:Nat
def get:List (Nat × Slot)→Nat→Slot
 | [],_ => .dead
 | (j,s)::r,k=>if j=k then s else get r k
inductive Kd where
 | int (k:IntKind)
 | flt (k:FloatKind)
 | bool
 | str
 | slc (e:Nat)
 | ptr (e:Nat)
 | st (fs:List (Nat × Nat))
 | other
structure TD where
 agg:Bool
 sz:Nat
 bytes:Nat
 own:List Pm
 zero:List T
 kd:Kd
inductive Mode where
 | val
 | io
 | iop
structure Arg where
 m:Mode
 v:V
structure Res where
 rs:List V
 outs:List (Option V)
inductive FD where
 | code (c:Code) (modes:List Mode) (outs:List Nat) (results:List (Nat × Option (Bool × Nat))) (keep:List (Nat × List Nat))
 | ext (g:List T→Option (List (Bool × List Pm × List T)))
 | sem (ms:List Mode) (h:List Arg→Option Res)
structure Env where
 ty:Nat→Option TD
 fn:Nat→Option FD
inductive Ro where
 | con (v:Value)
 | fnc (f:Nat)
 | slot (t:Nat) (s root:Slot)
 | tup (t:Nat) (cs:List Slot)
 | part (t i:Nat) (s c:Slot)
 | clo (t f:Nat) (caps:List (Nat × Place × Slot))
 | v (v:V)
 | bad
def vslot (t i:Nat):Nat:=1000000+16 * t+i
def upto:Nat→List Nat
 | 0=>[]
 | n+1=>upto n++[n]
def resolve1 (env:List (Nat × Slot)):Operand→Ro
 | .const v => .con v
 | .func f => .fnc f
 | .global _ => .bad
 | .tmp t=>match get env t with
   | .view k pl => .slot t (.view k pl) (get env k)
   | .ptr k pl => .slot t (.ptr k pl) (get env k)
   | .clo f caps => .clo t f (caps.map fun c=>(c.1,c.2,get env c.1))
   | .tup n => .tup t ((upto n).map fun i=>get env (vslot t i))
   | s => .slot t s .dead
def resolveOp (env:List (Nat × Slot)):Op→List Ro
 | .extract (.tmp t) i=>[.part t i (get env t) (get env (vslot t i))]
 | op=>op.operands.toList.map (resolve1 env)
def Ro.foot:Ro→List Nat
 | .slot t (.view k _) _=>[t,k]
 | .slot t (.ptr k _) _=>[t,k]
 | .slot t _ _=>[t]
 | .tup t cs=>t::(upto cs.length).map (vslot t)
 | .part t i _ _=>[t,vslot t i]
 | .clo t _ caps=>t::caps.map (·.1)
 | _=>[]
def constT:Value→Option T
 | .int k n=>some (.int k n)
 | .bool b=>some (.bool b)
 | .float k b=>some (.flt k (canon k b))
 | .string s=>some (.str s.data.toList)
 | .slice none 0 0=>some (.lst 0 [])
 | .pointer none=>some .nil
 | .nilFunc=>some .nil
 | .nilIface=>some .nil
 | _=>none
def constTs:List Value→Option (List T)
 | []=>some []
 | v::vs=>match constT v with
   | none=>none
   | some t=>match constTs vs with
     | none=>none
     | some r=>some (t::r)
def fitTs:List Pm→List T→Bool
 | [],[]=>true
 | .leaf::ps,t::ts=>(match t with
   | .lst _ _=>false
   | .ref _=>false
   | .fn _ _=>false
   | _=>true)&&fitTs ps ts
 | .sl .own _::ps,.lst 0 []::ts=>fitTs ps ts
 | _,_=>false
def constV (E:Env) (ty:Nat):Value→Option V
 | .agg vs=>match E.ty ty with
   | none=>none
   | some d=>match constTs vs.toList with
     | none=>none
     | some ts=>if fitTs d.own ts then some ⟨true,d.own,ts⟩ else none
 | v=>match constT v with
   | none=>none
   | some (.lst n cs)=>match E.ty ty with
     | some d=>match d.own with
       | [.sl .own el]=>some ⟨false,[.sl .own el],[.lst n cs]⟩
       | _=>none
     | none=>none
   | some t=>some ⟨false,[.leaf],[t]⟩
def readV (E:Env) (ty:Nat):Ro→Option V
 | .con v=>constV E ty v
 | .slot _ (.val a p cs _ _) _=>some ⟨a,p,cs⟩
 | .slot _ (.view _ pl) root=>match root.root with
   | none=>none
   | some (p,cs,d)=>if stale d pl then none else atPlace p cs pl
 | .v v=>some v
 | .fnc f=>some ⟨false,[.fn []],[.fn f []]⟩
 | _=>none
def readLeaf (E:Env) (ty:Nat) (r:Ro):Option T :=
 match readV E ty r with
 | some ⟨false,[.leaf],[t]⟩=>some t
 | _=>none
def qfop (k:FloatKind) (r:Option Nat):T:=.flt k (match r with
 | some b=>b
 | none=>qnan k)
def intBits (op:BinOp) (k:IntKind) (x y:Int):Int :=
 let a:=BitVec.ofInt k.bits x
 let b:=BitVec.ofInt k.bits y
 k.wrap (match op with
  | .and=>(a &&& b).toNat
  | .or=>(a ||| b).toNat
  | .xor=>(a ^^^ b).toNat
  | _=>(a &&& ~~~b).toNat)
def binT (op:BinOp):T→T→Option T
 | .int k x,.int k' y =>
   match op with
   | .shl=>if 0≤y then some (.int k (k.wrap (x * 2 ^ min y.toNat k.bits))) else none
   | .shr=>if 0≤y then some (.int k (x.fdiv (2 ^ min y.toNat k.bits))) else none
   | op=>if k=k' then (match op with
     | .add=>some (.int k (k.wrap (x+y)))
     | .sub=>some (.int k (k.wrap (x - y)))
     | .mul=>some (.int k (k.wrap (x * y)))
     | .quo=>if y=0 then none else some (.int k (k.wrap (x.tdiv y)))
     | .rem=>if y=0 then none else some (.int k (x.tmod y))
     | .and=>some (.int k (intBits .and k x y))
     | .or=>some (.int k (intBits .or k x y))
     | .xor=>some (.int k (intBits .xor k x y))
     | .andNot=>some (.int k (intBits .andNot k x y))
     | .eql=>some (.bool (x==y))
     | .neq=>some (.bool (x != y))
     | .lss=>some (.bool (decide (x<y)))
     | .leq=>some (.bool (decide (x≤y)))
     | .gtr=>some (.bool (decide (x>y)))
     | .geq=>some (.bool (decide (x≥y)))
     | _=>none) else none
 | .bool x,.bool y=>match op with
    | .eql=>some (.bool (x==y))
    | .neq=>some (.bool (!(x==y)))
    | _=>none
 | .flt k x,.flt k' y=>if k=k' then (match op with
    | .add=>some (qfop k (k.format.add x y))
    | .sub=>some (qfop k (k.format.sub x y))
    | .mul=>some (qfop k (k.format.mul x y))
    | .quo=>some (qfop k (k.format.div x y))
    | .eql=>some (.bool (k.format.order x y==some .eq))
    | .neq=>some (.bool (k.format.order x y != some .eq))
    | .lss=>some (.bool (k.format.order x y==some .lt))
    | .leq=>some (.bool (k.format.order x y==some .lt||k.format.order x y==some .eq))
    | .gtr=>some (.bool (k.format.order x y==some .gt))
    | .geq=>some (.bool (k.format.order x y==some .gt||k.format.order x y==some .eq))
    | _=>none) else none
 | .str a,.str b=>match op with
    | .add=>if a.length+b.length≤4611686018427387904 then some (.str (a++b)) else none
    | .eql=>some (.bool (a==b))
    | .neq=>some (.bool (!(a==b)))
    | .lss=>some (.bool (Op.bytesLess a b))
    | .leq=>some (.bool (Op.bytesLess a b||a==b))
    | .gtr=>some (.bool (!(Op.bytesLess a b||a==b)))
    | .geq=>some (.bool (!(Op.bytesLess a b)))
    | _=>none
 | .opq,.int .u64 c=>match op with
    | .andNot=>if c=9223372036854775808 then some .opq else none
    | _=>none
 | _,_=>none
def negF (k:FloatKind) (x:Nat):Nat:=if isNaN k x then qnan k else x ^^^ 2 ^ (k.format.exponentBits+k.format.fractionBits)
def unT (op:UnOp):T→Option T
 | .bool b=>match op with
   | .not=>some (.bool (!b))
   | _=>none
 | .int k n=>match op with
   | .neg=>some (.int k (k.wrap (0 - n)))
   | _=>none
 | .flt k x=>match op with
   | .neg=>some (.flt k (negF k x))
   | _=>none
 | _=>none
def fltToFlt (src:FloatKind) (x:Nat) (dst:FloatKind):Option Nat :=
 if src=dst then some x else
 match src.decode x with
 | .nan _ _=>some (qnan dst)
 | .infinity s=>some (dst.encode (.infinity s))
 | .number s m e=>if (dst.decode (dst.encode (.number s m e))).isInfinity then none else some (dst.encode (.number s m e))
def fltToInt (src:FloatKind) (x:Nat) (dst:IntKind):Option Int :=
 match (src.decode x).toInt .zero with
 | some n=>if dst.min≤n∧n≤dst.max then some n else none
 | none=>none
def convT:Kd→T→Option T
 | .int k,.int _ n=>some (.int k (k.wrap n))
 | .flt k,.int _ n=>some (.flt k (k.nearest n))
 | .int k,.flt s x=>match fltToInt s x k with
   | some n=>some (.int k n)
   | none=>none
 | .flt k,.flt s x=>match fltToFlt s x k with
   | some y=>some (.flt k y)
   | none=>none
 | .str,.str s=>some (.str s)
 | _,_=>none
structure Out where
 ups:List (Nat × Slot)
 g:Option Nat
def lim:Nat:=2147483648
def whole (p:List Pm) (agg:Bool):Place:=⟨[],0,0,p.length,agg⟩
def dstIs (o:Oper) (s:Slot):List (Nat × Slot):=match o.dst with
 | some d=>[(d,s)]
 | none=>[]
def valS (v:V):Slot:=.val v.agg v.p v.cs [] 0
def ptrOf:Ro→Option (Nat × Place × Slot)
 | .slot _ (.ptr k pl) root=>match root.root with
   | none=>none
   | some (_,_,d)=>if staleP d pl then none else some (k,pl,root)
 | .slot t (.box p cs d pin) _=>some (t,whole p false,.box p cs d pin)
 | _=>none
def dirtAll:Dirt:=[([],0,1000000)]
def lentAt (g:Nat) (ps:List Pm) (c n:Nat):List Pm:=match getP ps c n with
 | none=>ps
 | some q=>setPs ps c (lentifies g q)
def takenAt (pinned:Bool) (g:Nat) (ps:List Pm) (c n:Nat):List Pm:=match pinned with
 | true=>setPs ps c (List.replicate n .dead)
 | false=>lentAt g ps c n
def holeT:List Pm→List T→Option (List T)
 | [],[]=>some []
 | .sl .own _::ps,_::ts=>match holeT ps ts with
   | none=>none
   | some r=>some (.nil::r)
 | .leaf::ps,t::ts=>match holeT ps ts with
   | none=>none
   | some r=>some (t::r)
 | .sl .shr _::ps,t::ts=>match holeT ps ts with
   | none=>none
   | some r=>some (t::r)
 | _,_=>none
def takeV (E:Env) (g:Nat) (ty:Nat) (r:Ro):Option (V × List (Nat × Slot)) :=
 match readV E ty r with
 | none=>none
 | some v=>if !firms g v.p then none else if noOwns v.p then some (v,[]) else
   match r with
   | .slot t (.val _ _ _ _ 0) _=>some (v,[(t,.gone)])
   | .slot _ (.view k pl) root=>match pl.path with
     | []=>match root.root with
       | none=>none
       | some (p,cs,d)=>some (v,[(k,root.withRoot (takenAt root.pinned g p pl.c pl.n) cs (([],pl.c,pl.n)::d))])
     | path=>if Nat.ble pl.n 0 then none else match root.root with
       | none=>none
       | some (p,cs,d)=>match rowAt p cs path with
         | none=>none
         | some (el,_)=>match holeT v.p v.cs with
           | none=>none
           | some hs=>some (v,[(k,root.withRoot p (rowSet p cs path fun rcs=>setN rcs (ix el.length pl.e pl.c) hs) ((cols path,pl.c,pl.n)::d))])
   | .con _=>some (v,[])
   | _=>none
def fillT (ps:List Pm) (place:Nat→Option (Nat × Nat)) (cells:List T):List (Nat × V)→Option (List T)
 | []=>some cells
 | (i,v)::rest=>match place i with
   | none=>none
   | some (off,size)=>match getP ps (match ps.length with | 0=>0 | n=>off % n) size with
     | none=>none
     | some q=>if v.cs.length=size&&pbeqs v.p q&&Nat.ble (off+size) cells.length
       then fillT ps place (setN cells off v.cs) rest else none
def takeParts (E:Env) (g:Nat) (tys:Nat→Option Nat):List (Nat × Ro)→Option (List (Nat × V) × List (Nat × Slot))
 | []=>some ([],[])
 | (i,r)::rest=>match tys i with
   | none=>none
   | some ty=>match takeV E g ty r with
     | none=>none
     | some (v,u)=>match takeParts E g tys rest with
       | none=>none
       | some (vs,us)=>some ((i,v)::vs,u++us)
def reps (n:Nat) (cs:List T):List T:=(List.replicate n cs).flatten
def tupUps (t:Nat):Nat→List Slot→List (Nat × Slot)
 | _,[]=>[]
 | i,c::cs=>(vslot t i,c)::tupUps t (i+1) cs
def Slot.plain:Slot→Bool
 | .val _ _ _ _ 0=>true
 | .box _ _ _ 0=>true
 | .gone=>true
 | .dead=>true
 | _=>false
def opMove (E:Env) (o:Oper) (r:Ro):Option Out :=
 match r with
 | .con v=>match constV E o.type v with
   | none=>none
   | some v=>some ⟨dstIs o (valS v),none⟩
 | .slot t s _=>match s with
   | .val a p cs _ _=>if noOwns p then some ⟨dstIs o (.val a p cs [] 0),none⟩ else some ⟨dstIs o (.view t (whole p a)),none⟩
   | .box p _ _ _=>some ⟨dstIs o (.ptr t (whole p false)),none⟩
   | .view k pl=>some ⟨dstIs o (.view k pl),none⟩
   | .ptr k pl=>some ⟨dstIs o (.ptr k pl),none⟩
   | _=>none
 | .clo _ f caps=>some ⟨dstIs o (.clo f (caps.map fun c=>(c.1,c.2.1))),none⟩
 | .tup t cs=>match o.dst with
   | none=>none
   | some d=>if d=t||Nat.ble 16 cs.length || !(cs.all Slot.plain) then none else some ⟨(d,.tup cs.length)::(t,.gone)::(tupUps d 0 cs++tupUps t 0 (cs.map fun _ => .gone)),none⟩
 | _=>none
def deadAt (ps:List Pm) (c n:Nat):List Pm:=setPs ps c (List.replicate n .dead)
def opAssign (E:Env) (o:Oper) (r:Ro) (old:Slot):Option Out :=
 if old.pinned then none else
 match o.dst with
 | none=>none
 | some dst=>match r with
   | .con v=>match constV E o.type v with
     | none=>none
     | some v=>some ⟨[(dst,.val v.agg v.p v.cs dirtAll 0)],none⟩
   | .slot t s root=>if t=dst then none else match s with
     | .val a p cs _ pin=>if noOwns p then some ⟨[(dst,.val a p cs dirtAll 0)],none⟩ else
       if pin != 0 then none else some ⟨[(dst,.val a p cs dirtAll 0),(t,.view dst (whole p a))],none⟩
     | .box p cs _ pin=>if pin != 0 then none else some ⟨[(dst,.box p cs dirtAll 0),(t,.ptr dst (whole p false))],none⟩
     | .view k pl=>if k=dst then none else match root with
       | .val a p cs d pin=>if pin != 0||stale d pl then none else match pl.path with
         | []=>if pl.e=0&&pl.c=0&&pl.n=p.length then some ⟨[(dst,.val pl.agg p cs dirtAll 0),(k,.view dst (whole p pl.agg))],none⟩ else none
         | path=>if Nat.ble pl.n 0 then none else match atPlace p cs pl with
           | none=>none
           | some v=>match rowAt p cs path with
             | none=>none
             | some (el,_)=>match holeT v.p v.cs with
               | none=>none
               | some hs=>some ⟨[(dst,.val v.agg v.p v.cs dirtAll 0),(k,root.withRoot p (rowSet p cs path fun rcs=>setN rcs (ix el.length pl.e pl.c) hs) ((cols path,pl.c,pl.n)::d))],none⟩
       | .box p cs d _=>if stale d pl then none else match pl.path with
         | []=>none
         | path=>if Nat.ble pl.n 0 then none else match atPlace p cs pl with
           | none=>none
           | some v=>match rowAt p cs path with
             | none=>none
             | some (el,_)=>match holeT v.p v.cs with
               | none=>none
               | some hs=>some ⟨[(dst,.val v.agg v.p v.cs dirtAll 0),(k,root.withRoot p (rowSet p cs path fun rcs=>setN rcs (ix el.length pl.e pl.c) hs) ((cols path,pl.c,pl.n)::d))],none⟩
       | _=>none
     | .ptr k pl=>if k=dst then none else some ⟨[(dst,.ptr k pl)],none⟩
     | _=>none
   | .clo _ f caps=>some ⟨[(dst,.clo f (caps.map fun c=>(c.1,c.2.1)))],none⟩
   | _=>none
def opBox (E:Env) (g:Nat) (o:Oper) (elem:Nat) (r:Ro):Option Out :=
 match readV E elem r with
 | none=>none
 | some v=>match E.ty elem with
   | none=>none
   | some d=>if v.cs.length=d.sz∧firms g v.p then (if noOwns v.p then some ⟨dstIs o (.box v.p v.cs [] 0),none⟩ else
     match r with
     | .slot t (.val _ _ _ _ pin) _=>some ⟨dstIs o (.box v.p v.cs [] pin)++[(t,.gone)],none⟩
     | _=>none) else none
def fillB (place:Nat→Option (Nat × Nat)) (ps:List Pm) (cells:List T):List (Nat × V)→Option (List Pm × List T)
 | []=>some (ps,cells)
 | (i,v)::rest=>match place i with
   | none=>none
   | some (off,size)=>if v.cs.length==size&&v.p.length==size&&Nat.ble (off+size) cells.length
      then fillB place (setPs ps off v.p) (setN cells off v.cs) rest else none
def opBuild (E:Env) (g:Nat) (o:Oper) (t:Nat) (parts:List (Nat × Ro)):Option Out :=
 match E.ty t with
 | some d=>match d.kd with
   | .st fs=>match takeParts E g (fun i=>(fs[i]?).map (·.2)) parts with
     | none=>none
     | some (vs,us)=>match fillB (fun i=>match fs[i]? with
        | none=>none
        | some (off,ty)=>match E.ty ty with
          | none=>none
          | some d'=>some (off,d'.sz)) d.own d.zero vs with
       | none=>none
       | some (p,cs)=>if nodupNat (us.map (·.1)) then some ⟨dstIs o (.val true p cs [] 0)++us,none⟩ else none
   | _=>none
 | none=>none
def elFor (own:List Pm) (vs:List (Nat × V)):List Pm:=match vs.any (fun x=>pbeqs x.2.p (shares own)) with
 | true=>shares own
 | false=>own
def opBuildSlice (E:Env) (g:Nat) (o:Oper) (t len:Nat) (parts:List (Nat × Ro)):Option Out :=
 match E.ty t with
 | some d=>match d.kd with
   | .slc e=>match E.ty e with
     | none=>none
     | some de=>if Nat.ble (len * de.sz) 65536 then (match takeParts E g (fun _=>some e) parts with
       | none=>none
       | some (vs,us)=>match fillT (elFor de.own vs) (fun i=>some (i * de.sz,de.sz)) (reps len de.zero) vs with
         | none=>none
         | some cs=>if nodupNat (us.map (·.1)) then some ⟨dstIs o (.val false [.sl .own (elFor de.own vs)] [.lst len cs] [] 0)++us,none⟩ else none) else none
   | _=>none
 | none=>none
def opLoad (E:Env) (o:Oper) (t:Nat) (r:Ro):Option Out :=
 match E.ty t with
 | none=>none
 | some d=>match ptrOf r with
   | some (k,pl,root)=>match root.root with
     | none=>none
     | some (p,cs,_)=>match atPlace p cs { pl with n:=d.sz,agg:=d.agg } with
       | none=>none
       | some v=>if noOwns v.p then some ⟨dstIs o (valS v),none⟩ else some ⟨dstIs o (.view k { pl with n:=d.sz,agg:=d.agg }),none⟩
   | none=>match r with
     | .slot _ (.val false [.rf .shr el] [.ref cs] _ _) _=>match getP el 0 d.sz with
       | none=>none
       | some p=>match getN cs 0 d.sz with
         | none=>none
         | some c=>some ⟨dstIs o (.val d.agg p c [] 0),none⟩
     | _=>none
def opStore (E:Env) (g:Nat) (t:Nat) (r x:Ro):Option (Out × Bool) :=
 match E.ty t with
 | none=>none
 | some d=>match ptrOf r with
   | none=>none
   | some (k,pl,root)=>match root.root with
     | none=>none
     | some (p,cs,dd)=>match takeV E g t x with
       | none=>none
       | some (v,us)=>match rowAt p cs pl.path with
         | none=>none
         | some (el,rcs)=>match getP el pl.c d.sz with
           | none=>none
           | some q=>match getN rcs (ix el.length pl.e pl.c) d.sz with
             | none=>none
             | some _=>if v.cs.length=d.sz ∧ !(us.any fun u=>u.1==k) then (match pl.path with
               | []=>if root.pinned then none else some (⟨us++[(k,root.withRoot (setPs p pl.c v.p) (setN cs pl.c v.cs) (([],pl.c,d.sz)::dd))],none⟩,false)
               | _=>if pbeqs v.p q then some (⟨us++[(k,root.withRoot p (rowSet p cs pl.path fun rcs=>setN rcs (ix el.length pl.e pl.c) v.cs) ((cols pl.path,pl.c,d.sz)::dd))],none⟩,true) else none) else none
def opNilCheck (o:Oper) (r:Ro):Option Out :=
 match ptrOf r with
 | some (k,pl,_)=>some ⟨dstIs o (.ptr k pl),none⟩
 | none=>match r with
   | .slot _ (.val false [.rf .shr el] [.ref cs] _ _) _=>some ⟨dstIs o (.val false [.rf .shr el] [.ref cs] [] 0),none⟩
   | _=>none
def leafOut (o:Oper) (t:Option T):Option Out :=
 match t with
 | none=>none
 | some t=>some ⟨dstIs o (.val false [.leaf] [t] [] 0),none⟩
def opExtract (o:Oper) (r:Ro):Option Out :=
 match r with
 | .part t i (.tup n) c=>if i<n then (match c with
   | .val a p cs _ _=>if noOwns p then some ⟨dstIs o (.val a p cs [] 0),none⟩ else some ⟨dstIs o (.val a p cs [] 0)++[(vslot t i,.gone)],none⟩
   | .box p cs _ _=>some ⟨dstIs o (.box p cs [] 0)++[(vslot t i,.gone)],none⟩
   | _=>none) else none
 | _=>none
def opFieldAddr (E:Env) (o:Oper) (s:Nat) (r:Ro) (f:Nat):Option Out :=
 match E.ty s with
 | none=>none
 | some d=>match d.kd with
   | .st fs=>match fs[f]? with
     | none=>none
     | some (off,ty)=>match E.ty ty with
       | none=>none
       | some d'=>match ptrOf r with
         | some (k,pl,root)=>match root.root with
           | none=>none
           | some (p,cs,_)=>match rowAt p cs pl.path with
             | none=>none
             | some (el,_)=>if off+d'.sz≤pl.n∧pl.c+pl.n≤el.length then some ⟨dstIs o (.ptr k { pl with c:=pl.c+off,n:=d'.sz }),none⟩ else none
         | none=>match r with
           | .slot _ (.val false [.rf .shr el] [.ref cs] _ _) _=>match getP el off d'.sz with
             | none=>none
             | some p=>match getN cs off d'.sz with
               | none=>none
               | some c=>some ⟨dstIs o (.val false [.rf .shr p] [.ref c] [] 0),none⟩
           | _=>none
   | _=>none
def opField (E:Env) (o:Oper) (s:Nat) (r:Ro) (f:Nat):Option Out :=
 match E.ty s with
 | none=>none
 | some d=>match d.kd with
   | .st fs=>match fs[f]? with
     | none=>none
     | some (off,ty)=>match E.ty ty with
       | none=>none
       | some d'=>match readV E s r with
         | none=>none
         | some v=>if !v.agg then none else match getP v.p off d'.sz with
           | none=>none
           | some p=>match getN v.cs off d'.sz with
             | none=>none
             | some c=>if noOwns p then some ⟨dstIs o (.val d'.agg p c [] 0),none⟩ else
               match r with
               | .slot _ (.view k pl) _=>some ⟨dstIs o (.view k { pl with c:=pl.c+off,n:=d'.sz,agg:=d'.agg }),none⟩
               | .slot t _ _=>some ⟨dstIs o (.view t ⟨[],0,off,d'.sz,d'.agg⟩),none⟩
               | _=>none
   | _=>none
def elemIs (E:Env) (t n:Nat):Bool:=match E.ty t with
 | none=>false
 | some d=>match d.kd with
   | .slc e=>match E.ty e with
     | none=>false
     | some de=>de.sz==n
   | _=>false
def strIs (E:Env) (t:Nat):Bool:=match E.ty t with
 | none=>false
 | some d=>match d.kd with
   | .str=>true
   | _=>false
def opIndexAddr (E:Env) (g:Nat) (o:Oper) (t:Nat) (r ri:Ro) (iTy:Nat):Option Out :=
 match readLeaf E iTy ri with
 | some (.int _ i)=>match readV E t r with
   | some ⟨false,[.sl fl el],[.lst n cs]⟩=>if 0≤i∧i<(n:Int)∧elemIs E t el.length∧fl.live g then (match fl with
     | .own=>match r with
       | .slot _ (.view k pl) _=>some ⟨dstIs o (.ptr k ⟨pl.path++[(pl.e,pl.c)],i.toNat,0,el.length,false⟩),none⟩
       | .slot t _ _=>some ⟨dstIs o (.ptr t ⟨[(0,0)],i.toNat,0,el.length,false⟩),none⟩
       | _=>none
     | fl=>match getN cs (ix el.length i.toNat 0) el.length with
       | none=>none
       | some c=>some ⟨dstIs o (.val false [.rf fl el] [.ref c] [] 0),none⟩) else none
   | _=>none
 | _=>none
def opIndex (E:Env) (o:Oper) (t:Nat) (r ri:Ro) (iTy:Nat):Option Out :=
 match readLeaf E iTy ri with
 | some (.int _ i)=>match readLeaf E t r with
   | some (.str s)=>if 0≤i∧strIs E t then leafOut o (match s[i.toNat]? with
     | none=>none
     | some b=>some (.int .u8 b.toNat)) else none
   | _=>none
 | _=>none
def sameOperand:Operand→Operand→Bool
 | .tmp a,.tmp b=>a==b
 | _,_=>false
def opMakeSlice (E:Env) (o:Oper) (t:Nat) (l:Ro) (lTy:Nat):Option Out :=
 match E.ty t with
 | some d=>match d.kd with
   | .slc e=>match E.ty e with
     | none=>none
     | some de=>match readLeaf E lTy l with
       | some (.int .i64 n)=>if 0≤n∧n≤(lim:Int)∧de.bytes≤1024 then
          some ⟨dstIs o (.val false [.sl .own de.own] [.lst n.toNat (reps n.toNat de.zero)] [] 0),none⟩ else none
       | _=>none
   | _=>none
 | none=>none
def bound (E:Env) (ty:Nat) (d:Int):Option Ro→Option Int
 | none=>some d
 | some r=>match readLeaf E ty r with
   | some (.int _ n)=>some n
   | _=>none
def opSlice (E:Env) (o:Oper) (t:Nat) (r:Ro) (lo hi:Option Ro) (iTy:Nat) (g:Nat):Option Out :=
 match readV E t r with
 | some ⟨false,[.leaf],[.str s]⟩=>match bound E iTy 0 lo,bound E iTy s.length hi with
   | some l,some h=>if 0≤l∧l≤h∧h≤(s.length:Int)∧strIs E t then
      some ⟨dstIs o (.val false [.leaf] [.str ((s.drop l.toNat).take (h.toNat - l.toNat))] [] 0),none⟩ else none
   | _,_=>none
 | some ⟨false,[.sl fl el],[.lst n cs]⟩=>match bound E iTy 0 lo,bound E iTy n hi with
   | some l,some h=>if 0≤l∧l≤h∧h≤(n:Int)∧elemIs E t el.length∧fl.live g then (
      let c:T:=.lst (h.toNat - l.toNat) ((cs.drop (ix el.length l.toNat 0)).take (ix el.length (h.toNat - l.toNat) 0))
      match fl with
      | .shr=>some ⟨dstIs o (.val false [.sl .shr el] [c] [] 0),none⟩
      | .lent g'=>some ⟨dstIs o (.val false [.sl (.lent g') el] [c] [] 0),none⟩
      | .own=>some ⟨dstIs o (.val false [.sl (.lent g) (lentifies g el)] [c] [] 0),none⟩) else none
   | _,_=>none
 | _=>none
def opLen (E:Env) (g:Nat) (o:Oper) (t:Nat) (r:Ro):Option Out :=
 match readV E t r with
 | some ⟨false,[.leaf],[.str s]⟩=>if strIs E t then leafOut o (some (.int .i64 s.length)) else none
 | some ⟨false,[.sl fl el],[.lst n _]⟩=>if elemIs E t el.length∧fl.live g then leafOut o (some (.int .i64 n)) else none
 | _=>none
def appended (E:Env) (g t2:Nat) (x:Ro):Option (Nat × List T × List Pm × List (Nat × Slot)) :=
 match readV E t2 x with
 | some ⟨false,[.leaf],[.str s]⟩=>if strIs E t2 then some (s.length,s.map (fun b=>T.int .u8 b.toNat),[.leaf],[]) else none
 | some ⟨false,[.sl fl el],[.lst m cs]⟩=>if elemIs E t2 el.length∧fl.live g then (if noOwns el then some (m,cs,el,[]) else
   match x with
   | .slot t (.val _ _ _ _ 0) _=>some (m,cs,el,[(t,.gone)])
   | _=>none) else none
 | _=>none
def appendTo (E:Env) (t1:Nat) (s:Ro):Option (Nat × List T × List Pm × List (Nat × Slot)) :=
 match readV E t1 s with
 | some ⟨false,[.sl .own el],[.lst n cs]⟩=>match s with
   | .con _=>some (n,cs,el,[])
   | .slot t (.val _ _ _ _ 0) _=>some (n,cs,el,[(t,.gone)])
   | .slot _ (.view k pl) root=>if root.pinned then none else match root.root with
     | none=>none
     | some (p,rcs,d)=>match pl.path with
       | []=>some (n,cs,el,[(k,root.withRoot (deadAt p pl.c 1) rcs (([],pl.c,1)::d))])
       | path=>match rowAt p rcs path with
         | none=>none
         | some (el2,_)=>some (n,cs,el,[(k,root.withRoot p (rowSet p rcs path fun x=>setN x (ix el2.length pl.e pl.c) [.nil]) ((cols path,pl.c,1)::d))])
   | _=>none
 | _=>none
def elFit (n:Nat) (el el':List Pm):Bool:=pbeqs el el'||(Nat.beq n 0&&Nat.beq el.length el'.length)
def opAppend (E:Env) (g:Nat) (o:Oper) (t1 t2:Nat) (s x:Ro):Option Out :=
 match E.ty t1 with
 | some d=>match d.kd with
   | .slc e=>match E.ty e with
     | none=>none
     | some de=>match appendTo E t1 s with
       | none=>none
       | some (n,cs,el,us)=>match appended E g t2 x with
         | none=>none
         | some (m,cs',el',us')=>if elFit n el el'&&firms g el'&&nodupNat ((us++us').map (·.1))&&Nat.ble (n+m) lim&&Nat.ble de.bytes 1024&&el'.length==de.sz then
            some ⟨dstIs o (.val false [.sl .own el'] [.lst (n+m) (cs++cs')] [] 0)++(us++us'),none⟩ else none
   | _=>none
 | none=>none
def minmax (isMax:Bool):T→T→Option T
 | .int k x,.int _ y=>if isMax then some (.int k (if y>x then y else x)) else some (.int k (if y<x then y else x))
 | .flt k x,.flt k' y=>if k≠k' then none else match k.format.order x y with
   | none=>some (.flt k (qnan k))
   | some .lt=>some (.flt k (if isMax then y else x))
   | some .gt=>some (.flt k (if isMax then x else y))
   | some .eq=>some (.flt k (if (k.decode x).neg==isMax then y else x))
 | _,_=>none
def capPlaces:List Ro→Option (List (Nat × Place))
 | []=>some []
 | r::rs=>match ptrOf r with
   | none=>none
   | some (k,pl,_)=>match capPlaces rs with
     | none=>none
     | some ks=>some ((k,pl)::ks)
def opMakeFunc (o:Oper) (fn:Fn) (nfirst:Nat) (rs:List Ro):Option Out :=
 match fn with
 | .func f=>if nfirst=0 then (match capPlaces rs with
   | none=>none
   | some ks=>some ⟨dstIs o (.clo f ks),none⟩) else none
 | _=>none
def bytesT:List T→Option (List UInt8)
 | []=>some []
 | .int .u8 n::ts=>match bytesT ts with
   | none=>none
   | some bs=>some (UInt8.ofNat n.toNat::bs)
 | _=>none
def leafTy (E:Env) (t:Nat):Bool:=match E.ty t with
 | none=>false
 | some d=>match d.kd with
   | .slc _=>false
   | .other=>false
   | _=>true
def bytesTy (E:Env) (t:Nat):Bool:=match E.ty t with
 | none=>false
 | some d=>match d.kd with
   | .slc e=>match E.ty e with
     | none=>false
     | some de=>match de.kd with
       | .int .u8=>true
       | _=>false
   | _=>false
def opConvert (E:Env) (g:Nat) (o:Oper) (src dst:Nat) (r:Ro):Option Out :=
 match E.ty dst with
 | none=>none
 | some d=>match readV E src r with
   | some ⟨false,[.leaf],[u]⟩=>if leafTy E src then leafOut o (convT d.kd u) else none
   | some ⟨false,[.sl fl [.leaf]],[.lst _ cs]⟩=>if bytesTy E src&&fl.live g then (match d.kd with
     | .str=>match bytesT cs with
       | none=>none
       | some bs=>leafOut o (some (.str bs))
     | _=>none) else none
   | _=>none
def leaves (E:Env):List Nat→List Ro→Option (List T)
 | [],[]=>some []
 | ty::tys,r::rs=>match readLeaf E ty r with
   | none=>none
   | some t=>match leaves E tys rs with
     | none=>none
     | some ts=>some (t::ts)
 | _,_=>none
def minmaxs (isMax:Bool) (t:T):List T→Option T
 | []=>some t
 | u::us=>match minmax isMax t u with
   | none=>none
   | some r=>minmaxs isMax r us
end Go.Desk
end
section
namespace Go.Desk
open Go
def shareBy (gm:Option Nat) (ps:List Pm):List Pm:=match gm with
 | none=>shares ps
 | some g=>sharesG g ps
def capVs (gm:Option Nat):List (Nat × Place × Slot)→Option (List Pm × List T)
 | []=>some ([],[])
 | (_,pl,root)::r=>match root.root with
   | none=>none
   | some (p,cs,d)=>if staleP d pl then none else match atPlace p cs pl with
     | none=>none
     | some v=>if Nat.ble pl.n 0 then none else match capVs gm r with
       | none=>none
       | some (ps,ts)=>some (.rf .shr (shareBy gm v.p)::ps,.ref v.cs::ts)
def ioPlace:Ro→Option (Nat × Place × Slot)
 | .slot _ (.view k pl) root=>some (k,pl,root)
 | .slot t (.val a p cs d pin) _=>some (t,whole p a,.val a p cs d pin)
 | _=>none
def mkArg (E:Env) (gm:Option Nat) (m:Mode) (ty:Nat) (r:Ro):Option (Arg × List (Nat × Place)) :=
 match m with
 | .val=>match readV E ty r with
   | some v=>some (⟨.val,⟨v.agg,shareBy gm v.p,v.cs⟩⟩,[])
   | none=>match r with
     | .clo _ f caps=>match capVs gm caps with
       | none=>none
       | some (ps,ts)=>some (⟨.val,⟨false,[.fn ps],[.fn f ts]⟩⟩,[])
     | r=>match ptrOf r with
       | none=>none
       | some (_,pl,root)=>match root.root with
         | none=>none
         | some (p,cs,_)=>match atPlace p cs pl with
           | none=>none
           | some v=>if Nat.ble pl.n 0 then none else some (⟨.val,⟨false,[.rf .shr (shareBy gm v.p)],[.ref v.cs]⟩⟩,[])
 | .io=>match ioPlace r with
   | none=>none
   | some (k,pl,root)=>match root.root with
     | none=>none
     | some (p,cs,d)=>if stale d pl||(pl.path.isEmpty&&pl.e != 0)||Nat.ble pl.n 0 then none else match atPlace p cs pl with
       | none=>none
       | some v=>if noLents v.p then some (⟨.io,v⟩,[(k,pl)]) else none
 | .iop=>match ptrOf r with
   | none=>none
   | some (k,pl,root)=>if root.pinned || !pl.path.isEmpty||pl.e != 0||Nat.ble pl.n 0 then none else match root.root with
     | none=>none
     | some (p,cs,_)=>match atPlace p cs pl with
       | none=>none
       | some v=>if noLents v.p then some (⟨.iop,⟨false,[.rf .own v.p],[.ref v.cs]⟩⟩,[(k,pl)]) else none
def mkArgs (E:Env) (gm:Option Nat):List Mode→List Nat→List Ro→Option (List Arg × List (Nat × Place))
 | [],[],[]=>some ([],[])
 | m::ms,ty::tys,r::rs=>match mkArg E gm m ty r with
   | none=>none
   | some (a,ks)=>match mkArgs E gm ms tys rs with
     | none=>none
     | some (as,ks')=>some (a::as,ks++ks')
 | _,_,_=>none
def isVal:Mode→Bool
 | .val=>true
 | _=>false
def leafA (a:Arg):Bool:=match a with
 | ⟨.val,⟨false,[.leaf],[_]⟩⟩=>true
 | _=>false
def Ro.rootNo:Ro→List Nat
 | .slot _ (.view k _) _=>[k]
 | .slot _ (.ptr k _) _=>[k]
 | .slot t _ _=>[t]
 | .clo _ _ caps=>caps.map (·.1)
 | _=>[]
def valRoots:List Mode→List Ro→List Nat
 | .val::ms,r::rs=>r.rootNo++valRoots ms rs
 | _::ms,_::rs=>valRoots ms rs
 | _,_=>[]
def Pm.isDead:Pm→Bool
 | .dead=>true
 | _=>false
def deadPs (ps:List Pm):Bool:=ps.all Pm.isDead
def putBack (a:Arg) (pl:Place) (root:Slot) (v:V):Option Slot :=
 match root.root with
 | none=>none
 | some (p,cs,d)=>match a.m with
    | .iop=>match v.p,v.cs,a.v.p with
      | [.rf .own q],[.ref c],[.rf .own q']=>if pbeqs q q'&&c.length==pl.n then
          some (root.withRoot p (setN cs pl.c c) (([],pl.c,pl.n)::d)) else none
      | _,_,_=>none
    | _=>if pbeqs v.p a.v.p&&v.cs.length==pl.n then (match pl.path with
      | []=>some (root.withRoot p (setN cs pl.c v.cs) (([],pl.c,pl.n)::d))
      | path=>match rowAt p cs path with
        | none=>none
        | some (el,_)=>some (root.withRoot p (rowSet p cs path fun rcs=>setN rcs (ix el.length pl.e pl.c) v.cs) ((cols path,pl.c,pl.n)::d)))
      else if deadPs v.p&&v.p.length==pl.n&&v.cs.length==pl.n then (match pl.path with
       | []=>some (root.withRoot (setPs p pl.c v.p) (setN cs pl.c v.cs) (([],pl.c,pl.n)::d))
       | path=>match rowAt p cs path with
         | none=>none
         | some (el,_)=>match holeT a.v.p a.v.cs with
           | none=>none
           | some hs=>some (root.withRoot p (rowSet p cs path fun rcs=>setN rcs (ix el.length pl.e pl.c) hs) ((cols path,pl.c,pl.n)::d))) else none
def putBacks (roots:Nat→Slot):List Arg→List (Nat × Place)→List V→Option (List (Nat × Slot))
 | [],[],[]=>some []
 | a::as,ks,vs=>match a.m with
   | .val=>putBacks roots as ks vs
   | _=>match ks,vs with
     | (k,pl)::ks,v::vs=>match putBack a pl (roots k) v with
       | none=>none
       | some s=>match putBacks roots as ks vs with
         | none=>none
         | some us=>some ((k,s)::us)
     | _,_=>none
 | _,_,_=>none
def ownPtr:V→Option (List Pm × List T)
 | ⟨false,[.rf .own p],[.ref cs]⟩=>some (p,cs)
 | _=>none
mutual
def Pm.clean2:Pm→Bool
 | .leaf=>true
 | .dead=>true
 | .sl .own el=>clean2s el
 | .rf .own el=>clean2s el
 | _=>false
def clean2s:List Pm→Bool
 | []=>true
 | p::ps=>p.clean2&&clean2s ps
end
def resSlot1 (v:V):Slot:=match ownPtr v with
 | some (p,cs) => .box p cs [] 0
 | none => .val v.agg v.p v.cs [] 0
def resUps (o:Oper) (rs:List V):List (Nat × Slot) :=
 match o.dst with
 | none=>[]
 | some d=>match rs with
   | [v]=>[(d,resSlot1 v)]
   | rs=>if Nat.ble 16 rs.length then [(d,.gone)] else (d,.tup rs.length)::tupUps d 0 (rs.map resSlot1)
mutual
def Pm.clean3:Pm→Bool
 | .leaf=>true
 | .dead=>true
 | .sl .own el=>clean3s el
 | .sl .shr el=>clean3s el
 | .rf .own el=>clean3s el
 | .rf .shr el=>clean3s el
 | _=>false
def clean3s:List Pm→Bool
 | []=>true
 | p::ps=>p.clean3&&clean3s ps
end
def argsShr (E:Env):List Mode→List Nat→List Ro→Bool
 | .val::ms,ty::tys,r::rs=>(match readV E ty r with
   | some v=>noOwns v.p&&noLents v.p
   | none=>false)&&argsShr E ms tys rs
 | _::ms,_::tys,_::rs=>argsShr E ms tys rs
 | _,_,_=>true
def resOk (shr:Bool) (rs:List V):Bool:=rs.all fun v=>clean2s v.p||shr&&clean3s v.p
def argsNoLent (E:Env):List Nat→List Ro→Bool
 | ty::tys,r::rs=>(match readV E ty r with
   | some v=>noLents v.p
   | none=>true)&&argsNoLent E tys rs
 | _,_=>true
def FD.keep:FD→List (Nat × List Nat)
 | .code _ _ _ _ k=>k
 | _=>[]
def FD.ms:FD→List Mode
 | .code _ m _ _ _=>m
 | _=>[]
def FD.os:FD→List Nat
 | .code _ _ o _ _=>o
 | _=>[]
def FD.rs:FD→List (Nat × Option (Bool × Nat))
 | .code _ _ _ r _=>r
 | _=>[]
def FD.modes (n:Nat):FD→List Mode
 | .code _ ms _ _ _=>ms
 | .ext _=>List.replicate n .val
 | .sem ms _=>ms
def rootOf:List Ro→Nat→Slot
 | [],_ => .dead
 | .slot _ (.view k _) root::rs,j=>if j=k then root else rootOf rs j
 | .slot _ (.ptr k _) root::rs,j=>if j=k then root else rootOf rs j
 | .slot t s _::rs,j=>if j=t then s else rootOf rs j
 | _::rs,j=>rootOf rs j
def opCall (E:Env) (callF:Nat→List Arg→Option Res) (o:Oper) (f:Nat) (tys:List Nat) (rs:List Ro) (g:Nat):Option (Out × Bool) :=
 match E.fn f with
 | none=>none
 | some fd =>
   if (fd.modes rs.length).all isVal then
    (if argsNoLent E tys rs then
      (match mkArgs E none (fd.modes rs.length) tys rs with
      | none=>none
      | some (as,_)=>match callF f as with
        | none=>none
        | some r=>if resOk (argsShr E (fd.modes rs.length) tys rs) r.rs then some (⟨resUps o r.rs,none⟩,false) else none)
    else match mkArgs E (some g) (fd.modes rs.length) tys rs with
     | none=>none
     | some (as,_)=>match callF f as with
       | none=>none
       | some r=>if resOk false r.rs then some (⟨resUps o r.rs,none⟩,true) else none)
   else match mkArgs E none (fd.modes rs.length) tys rs with
    | none=>none
    | some (as,ks) =>
      if nodupNat (ks.map (·.1)) && !((valRoots (fd.modes rs.length) rs).any fun k=>(ks.map (·.1)).any fun k'=>k==k') then
       (match callF f as with
       | none=>none
       | some r=>if resOk (argsShr E (fd.modes rs.length) tys rs) r.rs&&resOk (argsShr E (fd.modes rs.length) tys rs) (r.outs.filterMap id) then (match putBacks (rootOf rs) as ks (r.outs.filterMap id) with
         | none=>none
         | some us=>if nodupNat ((resUps o r.rs++us).map (·.1)) then some (⟨resUps o r.rs++us,some (g+1)⟩,true) else none) else none)
      else none
def binOk (E:Env) (xt:Nat):T→Bool
 | .bool _=>match E.ty xt with
   | some d=>match d.kd with
     | .bool=>true
     | _=>false
   | none=>false
 | _=>true
def opRun (E:Env) (callF:Nat→List Arg→Option Res) (o:Oper) (rs:List Ro) (old:Slot) (g:Nat):Option (Out × Bool) :=
 let a (x:Option Out):Option (Out × Bool):=match x with
  | none=>none
  | some x=>some (x,false)
 let ag (x:Option Out):Option (Out × Bool):=match x with
  | none=>none
  | some x=>some (x,true)
 match o.op,rs with
 | .move _,[r]=>a (opMove E o r)
 | .assign _,[r]=>a (opAssign E o r old)
 | .pick _ _ _,[c,x,y]=>match readLeaf E 0 c with
   | some (.bool b)=>a (match b with
     | true=>opMove E o x
     | false=>opMove E o y)
   | _=>none
 | .alloc elem,[]=>match E.ty elem with
   | none=>none
   | some d=>some (⟨dstIs o (.box d.own d.zero [] 0),none⟩,false)
 | .box elem _,[r]=>ag (opBox E g o elem r)
 | .build t parts,rs=>ag (opBuild E g o t ((parts.toList.map (·.1)).zip rs))
 | .buildSlice t len parts,rs=>ag (opBuildSlice E g o t len ((parts.toList.map (·.1)).zip rs))
 | .load t _,[r]=>a (opLoad E o t r)
 | .store t _ _,[r,x]=>if o.dst.isSome then none else match opStore E g t r x with
   | none=>none
   | some (out,row)=>if row then some (⟨out.ups,some (g+1)⟩,true) else some (out,true)
 | .nilCheck _,[r]=>a (opNilCheck o r)
 | .binOp op xt _ _ yt,[x,y]=>match readLeaf E xt x with
   | none=>none
   | some u=>match readLeaf E yt y with
     | none=>none
     | some v=>if binOk E xt u then a (leafOut o (binT op u v)) else none
 | .unOp op xt _,[x]=>match readLeaf E xt x with
   | none=>none
   | some u=>a (leafOut o (unT op u))
 | .convert src dst _,[x]=>ag (opConvert E g o src dst x)
 | .makeFunc fn first _,rs=>a (opMakeFunc o fn first.size rs)
 | .makeSlice t l c,[x,_]=>if sameOperand l c then a (opMakeSlice E o t x 0) else none
 | .slice t _ lo hi none,r::rs=>match lo,hi,rs with
   | none,none,[]=>ag (opSlice E o t r none none 0 g)
   | some _,none,[x]=>ag (opSlice E o t r (some x) none 0 g)
   | none,some _,[y]=>ag (opSlice E o t r none (some y) 0 g)
   | some _,some _,[x,y]=>ag (opSlice E o t r (some x) (some y) 0 g)
   | _,_,_=>none
 | .fieldAddr s _ f,[r]=>a (opFieldAddr E o s r f)
 | .field s _ f,[r]=>a (opField E o s r f)
 | .indexAddr t _ _,[r,i]=>ag (opIndexAddr E g o t r i 0)
 | .index t _ _,[r,i]=>a (opIndex E o t r i 0)
 | .extract _ _,[r]=>a (opExtract o r)
 | .call c,rs=>match c.callee with
   | .builtin b=>match b,c.argTypes.toList,rs with
     | .len,[t],[r]=>ag (opLen E g o t r)
     | .append,[t1,t2],[s,x]=>ag (opAppend E g o t1 t2 s x)
     | .max,tys,rs=>match leaves E tys rs with
       | some (t::ts)=>a (leafOut o (minmaxs true t ts))
       | _=>none
     | .min,tys,rs=>match leaves E tys rs with
       | some (t::ts)=>a (leafOut o (minmaxs false t ts))
       | _=>none
     | _,_,_=>none
   | .value (.func f)=>opCall E callF o f c.argTypes.toList (rs.drop 1) g
   | .value _=>match rs with
     | .clo _ f caps::rs=>opCall E callF o f (c.argTypes.toList++caps.map fun _=>0) (rs++caps.map fun x => .slot x.1 (.ptr x.1 x.2.1) x.2.2) g
     | .slot _ (.val false [.fn ps] [.fn f ts] _ _) _::rs=>opCall E callF o f (c.argTypes.toList++ps.map fun _=>0) (rs++(ps.zip ts).map fun x => .v ⟨false,[x.1],[x.2]⟩) g
     | _=>none
   | _=>none
 | _,_=>none
def G:Nat:=4294967295
structure Step where
 ups:List (Nat × Slot)
 g:Option Nat
 foot:List Nat
 writes:List Nat
def guardOf (ops:Array Oper) (env:List (Nat × Slot)) (o:Oper):Option (Bool × List Nat) :=
 match o.guard with
 | none=>some (true,[])
 | some (j,want)=>match (ops[j]?).bind (·.dst) with
   | none=>none
   | some d=>match get env d with
     | .val false [.leaf] [.bool b] _ _=>some (b==want,[d])
     | .und=>some (false,[d])
     | _=>none
def feet:List Ro→List Nat
 | []=>[]
 | r::rs=>r.foot++feet rs
def dstList (o:Oper):List Nat:=match o.dst with
 | none=>[]
 | some d=>[d]
def isAssign:Op→Bool
 | .assign _=>true
 | _=>false
def freshOk:Slot→Bool
 | .dead=>true
 | .val _ p _ [] _=>noOwns p
 | _=>false
def dstFresh (o:Oper) (old:Slot) (ups:List (Nat × Slot)):Bool :=
 match o.dst with
 | none=>true
 | some d => !((get ups d).looks.any fun k=>k==d)&&(isAssign o.op||freshOk old||(match (get ups d).root with
   | none=>true
   | some _=>false))
def oldOf (env:List (Nat × Slot)) (o:Oper):Slot:=match o.dst with
 | none => .dead
 | some d=>get env d
def skelNo (k:Nat):Nat:=5000000000+k
def topPairs:Dirt→List (Nat × Nat)
 | []=>[]
 | ([],c,n)::d=>(c,n)::topPairs d
 | _::d=>topPairs d
def Slot.skel:Slot→Slot
 | .val a p cs d pin => .val a p (List.replicate cs.length .nil) ((topPairs d).map fun x=>([],x.1,x.2)) pin
 | .box p cs d pin => .box p (List.replicate cs.length .nil) ((topPairs d).map fun x=>([],x.1,x.2)) pin
 | s=>s
def pairsEq:List (Nat × Nat)→List (Nat × Nat)→Bool
 | [],[]=>true
 | (a,b)::xs,(c,d)::ys=>Nat.beq a c&&Nat.beq b d&&pairsEq xs ys
 | _,_=>false
def skelSame:Slot→Slot→Bool
 | .val a p cs d pin,.val a' p' cs' d' pin'=>(a==a')&&pbeqs p p'&&Nat.beq cs.length cs'.length&&pairsEq (topPairs d) (topPairs d')&&Nat.beq pin pin'
 | .box p cs d pin,.box p' cs' d' pin'=>pbeqs p p'&&Nat.beq cs.length cs'.length&&pairsEq (topPairs d) (topPairs d')&&Nat.beq pin pin'
 | _,_=>false
def hards (env:List (Nat × Slot)):List (Nat × Slot)→List Nat
 | []=>[]
 | (k,s)::us=>match skelSame (get env k) s with
   | true=>hards env us
   | false=>skelNo k::hards env us
def softRo:Ro→List Nat
 | .slot t (.ptr k pl) _=>match pl.path with
   | []=>[t,skelNo k]
   | _=>[t,k]
 | .slot t (.box _ _ _ _) _=>[skelNo t]
 | r=>r.foot
def opFeet (op:Op) (rs:List Ro) (ups:List (Nat × Slot)):List Nat:=match op with
 | .fieldAddr .. =>(match rs with
   | [r]=>softRo r
   | rs=>feet rs)
 | .load .. =>(match rs,ups with
   | [r],[(_,.view _ _)]=>softRo r
   | rs,_=>feet rs)
 | _=>feet rs
def stepOp (E:Env) (callF:Nat→List Arg→Option Res) (ops:Array Oper) (o:Oper) (σ:AS):Option Step :=
 match guardOf ops σ.env o with
 | none=>none
 | some (false,f)=>some ⟨dstIs o .und,none,f,dstList o++(dstList o).map skelNo⟩
 | some (true,f) =>
   match opRun E callF o (resolveOp σ.env o.op) (oldOf σ.env o) σ.g with
   | none=>none
   | some (out,usesG)=>if dstFresh o (oldOf σ.env o) out.ups then some ⟨out.ups,out.g,
      f++opFeet o.op (resolveOp σ.env o.op) out.ups++dstList o++(if usesG then [G] else []),
      out.ups.map (·.1)++hards σ.env out.ups++(match out.g with
       | none=>[]
       | some _=>[G])⟩ else none
def puts:List (Nat × Slot)→List (Nat × Slot)→List (Nat × Slot)
 | [],env=>env
 | u::us,env=>puts us (u::env)
def runOps (E:Env) (callF:Nat→List Arg→Option Res) (ops:Array Oper):List Oper→AS→Option (AS × List (List Nat × List Nat))
 | [],σ=>some (σ,[])
 | o::os,σ=>match stepOp E callF ops o σ with
   | none=>none
   | some st=>match runOps E callF ops os ⟨puts st.ups σ.env,st.g.getD σ.g⟩ with
     | none=>none
     | some (σ',fs)=>some (σ',(st.foot,st.writes)::fs)
def meets (xs ys:List Nat):Bool:=xs.any fun x=>ys.any fun y=>x==y
def raceFree (before:Array Nat):Nat→List (List Nat × List Nat)→List (List Nat × List Nat)→Bool
 | _,_,[]=>true
 | j,done,(f,w)::rest =>
   (go j 0 done f w)&&raceFree before (j+1) (done++[(f,w)]) rest
where
 go (j:Nat):Nat→List (List Nat × List Nat)→List Nat→List Nat→Bool
  | _,[],_,_=>true
  | i,(f',w')::r,f,w=>(!(meets w' f||meets w' w||meets f' w)||(before.getD j 0).testBit i)&&go j (i+1) r f w
def Slot.settle (env:List (Nat × Slot)) (keep:List Nat):Slot→Slot
 | .view k pl=>if keep.any (fun j=>j==k) then (match (get env k).root with
   | none => .dead
   | some (p,_,d)=>if stale d pl||noOwns p then .dead else .view k pl) else .dead
 | .ptr k pl=>if keep.any (fun j=>j==k) then (match (get env k).root with
   | none => .dead
   | some (_,_,d)=>if staleP d pl then .dead else .ptr k pl) else .dead
 | .val a p cs _ pin => .val a p cs [] pin
 | .tup _ => .dead
 | .box p cs _ pin => .box p cs [] pin
 | .clo f caps=>if caps.all fun c=>keep.any (fun j=>j==c.1)&&(match (get env c.1).root with
   | none=>false
   | some (_,_,d) => !staleP d c.2) then .clo f caps else .dead
 | .dead => .dead
 | .und => .dead
 | .gone => .dead
def Slot.lentFree:Slot→Bool
 | .val _ p _ _ _=>noLents p
 | .box p _ _ _=>noLents p
 | _=>true
def settle0 (keep:List Nat) (σ:AS):AS :=
 let env:=(keep.filter fun k=>Nat.blt k 1000000).map fun k=>(k,(get σ.env k).settle σ.env keep)
 ⟨env,if env.all (fun x=>x.2.lentFree) then 0 else σ.g⟩
def Pm.shareIn:Pm→Pm
 | .sl .own el => .sl .own (shares el)
 | p=>p
def shareIns (ps:List Pm):List Pm:=ps.map Pm.shareIn
def Slot.froze (m:Bool):Slot→Slot
 | .val a p cs d 0 => .val a (match m with | true=>shareIns p | false=>shares p) cs d 0
 | .box p cs d 0 => .box (match m with | true=>shareIns p | false=>shares p) cs d 0
 | s=>s
def looked (env:List (Nat × Slot)) (k:Nat):Bool:=env.any fun y=>y.2.looks.any fun j=>j==k
def frozeIf (keep:List Nat) (env:List (Nat × Slot)) (k:Nat) (s:Slot):Slot :=
 if keep.any (fun j=>Nat.beq j (1000000000+k)) && !looked env k then s.froze false
 else if keep.any (fun j=>Nat.beq j (2000000000+k)) && !looked env k then s.froze true
 else s
def frozeAll (keep:List Nat) (τ:AS):AS:=⟨τ.env.map fun x=>(x.1,frozeIf keep τ.env x.1 x.2),τ.g⟩
def frozes (keep:List Nat):Bool:=keep.any fun k=>Nat.ble 1000000000 k
def settle (keep:List Nat) (σ:AS):AS:=match frozes keep with
 | true=>frozeAll keep (settle0 keep σ)
 | false=>settle0 keep σ
def keepFree (keep:List (Nat × List Nat)):Bool:=keep.all fun x => !frozes x.2
inductive Ex where
 | normal
 | exit (id:Nat)
 | ret
def keepOf:List (Nat × List Nat)→Nat→List Nat
 | [],_=>[]
 | (i,k)::r,j=>if i=j then k else keepOf r j
def firstId:Code→Nat
 | .region id _ _=>id
 | .seq a _=>firstId a
 | .cond _ x _=>firstId x
 | .block _ x=>firstId x
 | .loop x=>firstId x
 | _=>0
def loopN:Nat→(AS→AS)→(AS→Option (Ex × AS))→AS→Option (Ex × AS)
 | 0,_,_,_=>none
 | n+1,st,f,σ=>match f σ with
   | some (.normal,σ')=>loopN n st f (st σ')
   | r=>r
def runRegion (E:Env) (callF:Nat→List Arg→Option Res) (keep:List Nat) (ops:Array Oper) (draw:Bool) (σ:AS):Option (Ex × AS) :=
 match runOps E callF ops ops.toList (settle keep σ) with
 | none=>none
 | some (σ',fs)=>if !draw||raceFree (Region.before ops) 0 [] fs then some (.normal,σ') else none
def outId (body:Code):Nat:=1000000+firstId body
def settleEx (keep:List Nat):Option (Ex × AS)→Option (Ex × AS)
 | none=>none
 | some (ex,σ)=>some (ex,settle keep σ)
def evalCode (E:Env) (callF:Nat→List Arg→Option Res) (n:Nat) (keep:List (Nat × List Nat)):Code→AS→Option (Ex × AS)
 | .skip,σ=>some (.normal,σ)
 | .region id ops draw,σ=>runRegion E callF (keepOf keep id) ops draw σ
 | .seq a b,σ=>match evalCode E callF n keep a σ with
   | some (.normal,σ')=>evalCode E callF n keep b σ'
   | r=>r
 | .cond c x y,σ=>match readLeaf E 0 (resolve1 σ.env c) with
   | some (.bool b)=>match b with
     | true=>evalCode E callF n keep x σ
     | false=>evalCode E callF n keep y σ
   | _=>none
 | .block id body,σ=>match evalCode E callF n keep body σ with
   | some (.exit id',σ')=>if id'=id then some (.normal,σ') else some (.exit id',σ')
   | r=>r
 | .loop body,σ=>settleEx (keepOf keep (outId body)) (loopN n (settle (keepOf keep (firstId body))) (evalCode E callF n keep body) (settle (keepOf keep (firstId body)) σ))
 | .exit id,σ=>some (.exit id,σ)
 | .ret,σ=>some (.ret,σ)
 | _,_=>none
def argSlot (i:Nat):Arg→Slot
 | ⟨.val,v⟩ => .val v.agg v.p v.cs [] 0
 | ⟨.io,v⟩ => .val v.agg v.p v.cs [] (i+1)
 | ⟨.iop,v⟩=>match ownPtr v with
   | some (p,cs) => .box p cs [] 0
   | none => .dead
def argEnv:Nat→List Arg→List (Nat × Slot)
 | _,[]=>[]
 | i,a::as=>(i,argSlot i a)::argEnv (i+1) as
def resV (env:List (Nat × Slot)) (t:Nat) (cell:Option (Bool × Nat)):Option V :=
 match cell,get env t with
 | none,.val a p cs _ 0=>some ⟨a,p,cs⟩
 | none,.box p cs _ 0=>some ⟨false,[.rf .own p],[.ref cs]⟩
 | some (a,n),.box p cs _ 0=>if p.length==n then some ⟨a,p,cs⟩ else none
 | _,_=>none
def resVs (env:List (Nat × Slot)):List (Nat × Option (Bool × Nat))→Option (List V)
 | []=>some []
 | (t,c)::ts=>match resV env t c with
   | none=>none
   | some v=>match resVs env ts with
     | none=>none
     | some vs=>some (v::vs)
def outV (env:List (Nat × Slot)) (i:Nat) (m:Mode) (t:Nat):Option V :=
 match m,get env t with
 | .io,.val a p cs _ pin=>if pin=i+1 then some ⟨a,p,cs⟩ else none
 | .io,.box p cs _ pin=>if pin=i+1 then some ⟨true,p,cs⟩ else none
 | .iop,.box p cs _ 0=>if t=i then some ⟨false,[.rf .own p],[.ref cs]⟩ else none
 | _,_=>none
def outVs (env:List (Nat × Slot)):Nat→List Mode→List Nat→Option (List (Option V))
 | _,[],_=>some []
 | i,.val::ms,ts=>match outVs env (i+1) ms ts with
   | none=>none
   | some vs=>some (none::vs)
 | i,m::ms,t::ts=>match outV env i m t with
   | none=>none
   | some v=>match outVs env (i+1) ms ts with
     | none=>none
     | some vs=>some (some v::vs)
 | _,_::_,[]=>none
def outsClean (os:List (Option V)):Bool:=os.all fun o=>match o with
 | some v=>clean2s v.p
 | none=>true
def finish (modes:List Mode) (outs:List Nat) (results:List (Nat × Option (Bool × Nat))) (keep:List (Nat × List Nat)):Option (Ex × AS)→Option Res
 | some (.exit _,_)=>none
 | none=>none
 | some (_,σ)=>match resVs σ.env results with
   | none=>none
   | some rs=>match outVs σ.env 0 modes outs with
     | none=>none
     | some os=>if nodupNat (results.map (·.1)++outs)&&(keepFree keep||(rs.all fun v=>clean2s v.p)&&outsClean os) then some ⟨rs,os⟩ else none
def Mode.beq:Mode→Mode→Bool
 | .val,.val=>true
 | .io,.io=>true
 | .iop,.iop=>true
 | _,_=>false
def sameModes:List Mode→List Arg→Bool
 | [],[]=>true
 | m::ms,a::as=>m.beq a.m&&sameModes ms as
 | _,_=>false
def evalFn (E:Env):Nat→Nat→List Arg→Option Res
 | 0,_,_=>none
 | n+1,f,args=>match E.fn f with
   | none=>none
   | some (.ext h)=>if args.all leafA then (match h (args.flatMap fun a=>a.v.cs) with
     | none=>none
     | some rs=>some ⟨rs.map fun x=>⟨x.1,x.2.1,x.2.2⟩,args.map fun _=>none⟩) else none
   | some (.sem _ h)=>h args
   | some (.code c modes outs results keep)=>if sameModes modes args then finish modes outs results keep (evalCode E (evalFn E n) n keep c ⟨argEnv 0 args,0⟩) else none
end Go.Desk
end
section
namespace Go.Desk
open Go
section
variable {w:World} {Fz Fz':Nat→Prop} {Lt Lt':Nat→Nat→Prop} {g g':Nat}
theorem noOwns_append (a b:List Pm):noOwns (a++b)=(noOwns a&&noOwns b):=by
 induction a with
 | nil=>simp[noOwns]
 | cons p ps ih=>simp[noOwns,ih,Bool.and_assoc]
theorem noLents_append (a b:List Pm):noLents (a++b)=(noLents a&&noLents b):=by
 induction a with
 | nil=>simp[noLents]
 | cons p ps ih=>simp[noLents,ih,Bool.and_assoc]
theorem shares_append (a b:List Pm):shares (a++b)=shares a++shares b:=by
 induction a with
 | nil=>simp[shares]
 | cons p ps ih=>simp[shares,ih]
theorem sharesG_append (a b:List Pm):sharesG g (a++b)=sharesG g a++sharesG g b:=by
 induction a with
 | nil=>simp[sharesG]
 | cons p ps ih=>simp[sharesG,ih]
theorem lentifies_append (a b:List Pm):lentifies g (a++b)=lentifies g a++lentifies g b:=by
 induction a with
 | nil=>simp[lentifies]
 | cons p ps ih=>simp[lentifies,ih]
theorem shares_length (a:List Pm):(shares a).length=a.length:=by
 induction a with
 | nil=>simp[shares]
 | cons p ps ih=>simp[shares,ih]
theorem sharesG_length (a:List Pm):(sharesG g a).length=a.length:=by
 induction a with
 | nil=>simp[sharesG]
 | cons p ps ih=>simp[sharesG,ih]
theorem lentifies_length (a:List Pm):(lentifies g a).length=a.length:=by
 induction a with
 | nil=>simp[lentifies]
 | cons p ps ih=>simp[lentifies,ih]
theorem rep_zero (el:List Pm):rep 0 el=[]:=rfl
theorem rep_succ (n:Nat) (el:List Pm):rep (n+1) el=el++rep n el:=by simp[rep,List.replicate_succ]
theorem rep_one (el:List Pm):rep 1 el=el:=by simp[rep]
theorem rep_length (n:Nat) (el:List Pm):(rep n el).length=n * el.length:=by simp[rep]
theorem rep_add (n m:Nat) (el:List Pm):rep (n+m) el=rep n el++rep m el:=by
 simp only[rep,← List.flatten_append,List.replicate_append_replicate]
theorem shares_rep (n:Nat) (el:List Pm):shares (rep n el)=rep n (shares el):=by
 induction n with
 | zero=>simp[rep,shares]
 | succ n ih=>simp[rep_succ,shares_append,ih]
theorem sharesG_rep (n:Nat) (el:List Pm):sharesG g (rep n el)=rep n (sharesG g el):=by
 induction n with
 | zero=>simp[rep,sharesG]
 | succ n ih=>simp[rep_succ,sharesG_append,ih]
theorem lentifies_rep (n:Nat) (el:List Pm):lentifies g (rep n el)=rep n (lentifies g el):=by
 induction n with
 | zero=>simp[rep,lentifies]
 | succ n ih=>simp[rep_succ,lentifies_append,ih]
theorem noOwns_rep {n:Nat} {el:List Pm} (h:noOwns el=true):noOwns (rep n el)=true:=by
 induction n with
 | zero=>simp[rep,noOwns]
 | succ n ih=>simp[rep_succ,noOwns_append,ih,h]
theorem noLents_rep {n:Nat} {el:List Pm} (h:noLents el=true):noLents (rep n el)=true:=by
 induction n with
 | zero=>simp[rep,noLents]
 | succ n ih=>simp[rep_succ,noLents_append,ih,h]
theorem R.noOwn {ps ts vs fp} (h:R w Fz Lt g ps ts vs fp) (hn:noOwns ps=true):fp=[]:=by
 induction h with
 | nil=>rfl
 | slO=>simp[noOwns,Pm.noOwn] at hn
 | rfO=>simp[noOwns,Pm.noOwn] at hn
 | leaf _ _ ih=>simp[noOwns] at hn;exact ih hn.2
 | dead _ ih=>simp[noOwns] at hn;exact ih hn.2
 | slE _ _ ih=>simp[noOwns] at hn;exact ih hn.2
 | slS _ _ _ _ _ _ _ _ _ ih=>simp[noOwns] at hn;exact ih hn.2
 | slL _ _ _ _ _ _ _ _ _ ih=>simp[noOwns] at hn;exact ih hn.2
 | slX _ _ ih=>simp[noOwns] at hn;exact ih hn.2
 | slH _ ih=>simp only[noOwns,Bool.and_eq_true] at hn;exact ih hn.2
 | rfS _ _ _ _ _ _ _ _ ih=>simp[noOwns] at hn;exact ih hn.2
 | rfL _ _ _ _ _ _ _ _ ih=>simp[noOwns] at hn;exact ih hn.2
 | rfX _ _ ih=>simp[noOwns] at hn;exact ih hn.2
 | fnv _ _ _ ih=>simp[noOwns] at hn;exact ih hn.2
theorem R.share {ps ts vs fp} (h:R w Fz Lt g ps ts vs fp) (hF:∀ b,Fz b→Fz' b) (hp:∀ f∈fp,Fz' f.b) :
  R w Fz' Lt' g' (shares ps) ts vs []:=by
 induction h with
 | nil=>exact .nil
 | leaf h _ ih=>exact .leaf h (ih hp)
 | dead _ ih=>exact .dead (ih hp)
 | @slE fl el a cap ps ts vs fp h _ ih =>
   cases fl with
   | lent g''=>exact .dead (ih hp)
   | own=>exact .slE (by simp) (ih hp)
   | shr=>exact .slE (by simp) (ih hp)
 | @slS b off n cap row e fr el cs vs' ps ts vs fp h0 hb hz hn hs hr hi _ ih1 ih2 =>
   exact .slS (vs' :=vs') (by rw[shares_length];exact h0) hb (hF _ hz) hn (by rw[shares_length];exact hs) (by rw[shares_length];exact hr) (by rw[← shares_rep];exact ih1 (by simp)) (ih2 hp)
 | slL _ _ _ _ _ _ _ _ _ ih=>exact .dead (ih hp)
 | slX _ _ ih=>exact .dead (ih hp)
 | @slH fl el a n cap ps ts vs fp _ ih =>
   cases fl with
   | lent=>exact .dead (ih hp)
   | _=>exact .slH (ih hp)
 | @slO b off n cap row e fr el cs vs' ps ts vs fp₁ fp₂ h0 hb hz hl hn hs hr hf hi _ ih1 ih2 =>
   refine .slS (vs' :=vs') (by rw[shares_length];exact h0) hb (hp _ (List.mem_cons_self ..)) hn (by rw[shares_length];exact hs) ?_ (by rw[← shares_rep];exact ih1 fun f hf=>hp f (by simp[hf])) (ih2 fun f hf=>hp f (by simp[hf]))
   rw[shares_length]
   exact Nat.le_trans (Nat.add_le_add_left (Nat.mul_le_mul_right _ hn) _) hr
 | @rfS b off row e fr el cs vs' ps ts vs fp h0 hb hz hs hr hi _ ih1 ih2 =>
   exact .rfS (vs' :=vs') (by rw[shares_length];exact h0) hb (hF _ hz) (by rw[shares_length];exact hs) (by rw[shares_length];exact hr) (ih1 (by simp)) (ih2 hp)
 | rfL _ _ _ _ _ _ _ _ ih=>exact .dead (ih hp)
 | @rfO b off row e fr el cs vs' ps ts vs fp₁ fp₂ h0 hb hz hl hs hr hf hi _ ih1 ih2 =>
   exact .rfS (vs' :=vs') (by rw[shares_length];exact h0) hb (hp _ (List.mem_cons_self ..)) (by rw[shares_length];exact hs) (by rw[shares_length];exact hr) (ih1 fun f hf=>hp f (by simp[hf])) (ih2 fun f hf=>hp f (by simp[hf]))
 | rfX _ _ ih=>exact .dead (ih hp)
 | fnv hi _ ih1 ih2=>exact .fnv (ih1 (by simp)) (ih2 hp)
theorem R.shareG {ps ts vs fp} (h:R w Fz Lt g ps ts vs fp) (hF:∀ b,Fz b→Fz' b) (hL:∀ b j,Lt b j→Fz' b) (hp:∀ f∈fp,Fz' f.b) :
  R w Fz' Lt' g' (sharesG g ps) ts vs []:=by
 induction h with
 | nil=>exact .nil
 | leaf h _ ih=>exact .leaf h (ih hp)
 | dead _ ih=>exact .dead (ih hp)
 | @slE fl el a cap ps ts vs fp h _ ih =>
   cases fl with
   | lent g'' =>
     simp only[sharesG,Pm.shareG]
     split
     ·exact .slE (by simp) (ih hp)
     ·exact .dead (ih hp)
   | own=>exact .slE (by simp) (ih hp)
   | shr=>exact .slE (by simp) (ih hp)
 | @slS b off n cap row e fr el cs vs' ps ts vs fp h0 hb hz hn hs hr hi _ ih1 ih2 =>
   exact .slS (vs' :=vs') (by rw[sharesG_length];exact h0) hb (hF _ hz) hn (by rw[sharesG_length];exact hs) (by rw[sharesG_length];exact hr) (by rw[← sharesG_rep];exact ih1 (by simp)) (ih2 hp)
 | @slL b off n cap row e fr el cs vs' ps ts vs fp h0 hb hl hn hs hr hi _ ih1 ih2 =>
   simp only[sharesG,Pm.shareG,if_true]
   rcases Nat.eq_zero_or_pos n with rfl | hpos
   ·have hcs:=hi.length_eq
    simp[rep] at hcs
    obtain ⟨rfl,rfl⟩:=hcs
    exact .slE (by simp) (ih2 hp)
   ·have:0<n * el.length:=Nat.mul_pos hpos h0
    exact .slS (vs' :=vs') (by rw[sharesG_length];exact h0) hb (hL _ _ (hl off (Nat.le_refl _) (by omega))) hn (by rw[sharesG_length];exact hs) (by rw[sharesG_length];exact hr) (by rw[← sharesG_rep];exact ih1 (by simp)) (ih2 hp)
 | @slX g'' el t v ps ts vs fp h _ ih =>
   simp only[sharesG,Pm.shareG]
   rw[if_neg (by omega)]
   exact .dead (ih hp)
 | @slH fl el a n cap ps ts vs fp _ ih =>
   cases fl with
   | lent g' =>
     simp only[sharesG,Pm.shareG]
     split
     ·exact .slH (ih hp)
     ·exact .dead (ih hp)
   | _=>exact .slH (ih hp)
 | @slO b off n cap row e fr el cs vs' ps ts vs fp₁ fp₂ h0 hb hz hl hn hs hr hf hi _ ih1 ih2 =>
   refine .slS (vs' :=vs') (by rw[sharesG_length];exact h0) hb (hp _ (List.mem_cons_self ..)) hn (by rw[sharesG_length];exact hs) ?_ (by rw[← sharesG_rep];exact ih1 fun f hf=>hp f (by simp[hf])) (ih2 fun f hf=>hp f (by simp[hf]))
   rw[sharesG_length]
   exact Nat.le_trans (Nat.add_le_add_left (Nat.mul_le_mul_right _ hn) _) hr
 | @rfS b off row e fr el cs vs' ps ts vs fp h0 hb hz hs hr hi _ ih1 ih2 =>
   exact .rfS (vs' :=vs') (by rw[sharesG_length];exact h0) hb (hF _ hz) (by rw[sharesG_length];exact hs) (by rw[sharesG_length];exact hr) (ih1 (by simp)) (ih2 hp)
 | @rfL b off row e fr el cs vs' ps ts vs fp h0 hb hl hs hr hi _ ih1 ih2 =>
   simp only[sharesG,Pm.shareG,if_true]
   exact .rfS (vs' :=vs') (by rw[sharesG_length];exact h0) hb (hL _ _ (hl _ (Nat.le_refl _) (by omega))) (by rw[sharesG_length];exact hs) (by rw[sharesG_length];exact hr) (ih1 (by simp)) (ih2 hp)
 | @rfO b off row e fr el cs vs' ps ts vs fp₁ fp₂ h0 hb hz hl hs hr hf hi _ ih1 ih2 =>
   exact .rfS (vs' :=vs') (by rw[sharesG_length];exact h0) hb (hp _ (List.mem_cons_self ..)) (by rw[sharesG_length];exact hs) (by rw[sharesG_length];exact hr) (ih1 fun f hf=>hp f (by simp[hf])) (ih2 fun f hf=>hp f (by simp[hf]))
 | @rfX g'' el t v ps ts vs fp h _ ih =>
   simp only[sharesG,Pm.shareG]
   rw[if_neg (by omega)]
   exact .dead (ih hp)
 | fnv hi _ ih1 ih2=>exact .fnv (ih1 (by simp)) (ih2 hp)
theorem R.lentify {ps ts vs fp} (h:R w Fz Lt g ps ts vs fp) (hL:∀ b j,Lt b j→Lt' b j) (hp:∀ f∈fp,∀ j,f.lo≤j→j<f.hi→f.l≠0→Lt' f.b j) :
  R w Fz Lt' g (lentifies g ps) ts vs []:=by
 induction h with
 | nil=>exact .nil
 | leaf h _ ih=>exact .leaf h (ih hp)
 | dead _ ih=>exact .dead (ih hp)
 | @slE fl el a cap ps ts vs fp h _ ih =>
   cases fl with
   | lent g''=>exact .slE (by simp) (ih hp)
   | own=>exact .slE (by simp) (ih hp)
   | shr=>exact .slE (by simp) (ih hp)
 | @slS b off n cap row e fr el cs vs' ps ts vs fp h0 hb hz hn hs hr hi _ ih1 ih2 =>
   exact .slS h0 hb hz hn hs hr (hi.mono (Ext.refl w (fun _ _=>False)) (fun _ h=>h) hL (by simp) (by simp) (by simp)) (ih2 hp)
 | @slL b off n cap row e fr el cs vs' ps ts vs fp h0 hb hl hn hs hr hi _ ih1 ih2 =>
   exact .slL h0 hb (fun j a c=>hL _ _ (hl j a c)) hn hs hr (hi.mono (Ext.refl w (fun _ _=>False)) (fun _ h=>h) hL (by simp) (by simp) (by simp)) (ih2 hp)
 | slX h _ ih=>exact .slX h (ih hp)
 | @slH fl el a n cap ps ts vs fp _ ih=>cases fl <;>exact .slH (ih hp)
 | @slO b off n cap row e fr el cs vs' ps ts vs fp₁ fp₂ h0 hb hz hl hn hs hr hf hi _ ih1 ih2 =>
   simp only[lentifies,Pm.lentify]
   rcases Nat.eq_zero_or_pos n with rfl | hpos
   ·have hcs:=hi.length_eq
    simp[rep] at hcs
    obtain ⟨rfl,rfl⟩:=hcs
    exact .slE (by simp) (ih2 fun f hf=>hp f (by simp[hf]))
   ·have hq:0<n * el.length:=Nat.mul_pos hpos h0
    refine .slL (vs' :=vs') (by rw[lentifies_length];exact h0) hb (fun j a c => ?_) hn (by rw[lentifies_length];exact hs) ?_ (by rw[← lentifies_rep];exact ih1 fun f hf=>hp f (by simp[hf])) (ih2 fun f hf=>hp f (by simp[hf]))
    ·rw[lentifies_length] at c
     exact hp ⟨b,off,off+n * el.length,off+n * el.length,off+cap * el.length⟩ (by simp) j a c (by simp;omega)
    ·rw[lentifies_length]
     exact Nat.le_trans (Nat.add_le_add_left (Nat.mul_le_mul_right _ hn) _) hr
 | @rfS b off row e fr el cs vs' ps ts vs fp h0 hb hz hs hr hi _ ih1 ih2 =>
   exact .rfS h0 hb hz hs hr (hi.mono (Ext.refl w (fun _ _=>False)) (fun _ h=>h) hL (by simp) (by simp) (by simp)) (ih2 hp)
 | @rfL b off row e fr el cs vs' ps ts vs fp h0 hb hl hs hr hi _ ih1 ih2 =>
   exact .rfL h0 hb (fun j a c=>hL _ _ (hl j a c)) hs hr (hi.mono (Ext.refl w (fun _ _=>False)) (fun _ h=>h) hL (by simp) (by simp) (by simp)) (ih2 hp)
 | @rfO b off row e fr el cs vs' ps ts vs fp₁ fp₂ h0 hb hz hl hs hr hf hi _ ih1 ih2=>exact .dead (ih2 fun f hf=>hp f (by simp[hf]))
 | rfX h _ ih=>exact .rfX h (ih hp)
 | fnv hi _ ih1 ih2 =>
   exact .fnv (hi.mono (Ext.refl w (fun _ _=>False)) (fun _ h=>h) hL (by simp) (by simp) (by simp)) (ih2 hp)
theorem R.noLent {ps ts vs fp} (h:R w Fz Lt g ps ts vs fp) (hn:noLents ps=true) (hp:∀ f∈fp,∀ j,f.l≤j→¬ Lt' f.b j) :
  R w Fz Lt' g' ps ts vs fp:=by
 induction h with
 | nil=>exact .nil
 | leaf h _ ih=>simp[noLents] at hn;exact .leaf h (ih hn.2 hp)
 | dead _ ih=>simp[noLents] at hn;exact .dead (ih hn.2 hp)
 | slE h _ ih=>simp[noLents] at hn;exact .slE h (ih hn.2 hp)
 | slS h0 hb hz hn' hs hr hi _ ih1 ih2 =>
   simp[noLents,Pm.noLent] at hn
   exact .slS h0 hb hz hn' hs hr (ih1 (noLents_rep hn.1) (by simp)) (ih2 hn.2 hp)
 | slL=>simp[noLents,Pm.noLent] at hn
 | slX=>simp[noLents,Pm.noLent] at hn
 | @slH fl el a n cap ps ts vs fp _ ih =>
   simp only[noLents,Bool.and_eq_true] at hn
   exact .slH (ih hn.2 hp)
 | @slO b off n cap row e fr el cs vs' ps ts vs fp₁ fp₂ h0 hb hz hl hn' hs hr hf hi _ ih1 ih2 =>
   simp[noLents,Pm.noLent] at hn
   exact .slO h0 hb hz (hp ⟨b,off,off+n * el.length,off+n * el.length,off+cap * el.length⟩ (by simp)) hn' hs hr hf (ih1 (noLents_rep hn.1) fun f hf=>hp f (by simp[hf])) (ih2 hn.2 fun f hf=>hp f (by simp[hf]))
 | rfS h0 hb hz hs hr hi _ ih1 ih2 =>
   simp[noLents,Pm.noLent] at hn
   exact .rfS h0 hb hz hs hr (ih1 hn.1 (by simp)) (ih2 hn.2 hp)
 | rfL=>simp[noLents,Pm.noLent] at hn
 | rfX=>simp[noLents,Pm.noLent] at hn
 | @rfO b off row e fr el cs vs' ps ts vs fp₁ fp₂ h0 hb hz hl hs hr hf hi _ ih1 ih2 =>
   simp[noLents,Pm.noLent] at hn
   exact .rfO h0 hb hz (fun j=>hp ⟨b,off,off+el.length,0,off+el.length⟩ (by simp) j (Nat.zero_le _)) hs hr hf (ih1 hn.1 fun f hf=>hp f (by simp[hf])) (ih2 hn.2 fun f hf=>hp f (by simp[hf]))
 | fnv hi _ ih1 ih2 =>
   simp[noLents,Pm.noLent] at hn
   exact .fnv (ih1 hn.1 (by simp)) (ih2 hn.2 hp)
theorem R.bump {ps ts vs fp} (h:R w Fz Lt g ps ts vs fp) (hg:g<g'):R w Fz (fun _ _=>False) g' ps ts vs fp:=by
 induction h with
 | nil=>exact .nil
 | leaf h _ ih=>exact .leaf h ih
 | dead _ ih=>exact .dead ih
 | slE h _ ih=>exact .slE h ih
 | slS h0 hb hz hn hs hr hi _ ih1 ih2=>exact .slS h0 hb hz hn hs hr ih1 ih2
 | slL _ _ _ _ _ _ _ _ _ ih=>exact .slX hg ih
 | slX h _ ih=>exact .slX (by omega) ih
 | slH _ ih=>exact .slH ih
 | slO h0 hb hz hl hn hs hr hf hi _ ih1 ih2=>exact .slO h0 hb hz (by simp) hn hs hr hf ih1 ih2
 | rfS h0 hb hz hs hr hi _ ih1 ih2=>exact .rfS h0 hb hz hs hr ih1 ih2
 | rfL _ _ _ _ _ _ _ _ ih=>exact .rfX hg ih
 | rfO h0 hb hz hl hs hr hf hi _ ih1 ih2=>exact .rfO h0 hb hz (by simp) hs hr hf ih1 ih2
 | rfX h _ ih=>exact .rfX (by omega) ih
 | fnv hi _ ih1 ih2=>exact .fnv ih1 ih2
end
theorem Fl.beq_eq {a b:Fl} (h:a.beq b=true):a=b:=by
 cases a <;>cases b <;>simp_all [Fl.beq]
mutual
theorem Pm.beq_eq:∀ {a b:Pm},a.beq b=true→a=b
 | .leaf,b,h=>by cases b <;>simp_all [Pm.beq]
 | .dead,b,h=>by cases b <;>simp_all [Pm.beq]
 | .sl f el,b,h=>by
   cases b <;>simp[Pm.beq] at h
   rw[Fl.beq_eq h.1,pbeqs_eq h.2]
 | .rf f el,b,h=>by
   cases b <;>simp[Pm.beq] at h
   rw[Fl.beq_eq h.1,pbeqs_eq h.2]
 | .fn el,b,h=>by
   cases b <;>simp[Pm.beq] at h
   rw[pbeqs_eq h]
theorem pbeqs_eq:∀ {a b:List Pm},pbeqs a b=true→a=b
 | [],b,h=>by cases b <;>simp_all [pbeqs]
 | p::ps,b,h=>by
   cases b <;>simp[pbeqs] at h
   rw[Pm.beq_eq h.1,pbeqs_eq h.2]
end
mutual
theorem Pm.clean3_noLent:∀ {p:Pm},p.clean3=true→p.noLent=true
 | .leaf,_=>rfl
 | .dead,_=>rfl
 | .sl f el,h=>by cases f <;>simp[Pm.clean3] at h <;>simp[Pm.noLent,clean3s_noLents h]
 | .rf f el,h=>by cases f <;>simp[Pm.clean3] at h <;>simp[Pm.noLent,clean3s_noLents h]
 | .fn el,h=>by simp[Pm.clean3] at h
theorem clean3s_noLents:∀ {ps:List Pm},clean3s ps=true→noLents ps=true
 | [],_=>rfl
 | p::ps,h=>by
   simp[clean3s] at h
   simp[noLents,Pm.clean3_noLent h.1,clean3s_noLents h.2]
end
mutual
theorem Pm.clean2_clean3:∀ {p:Pm},p.clean2=true→p.clean3=true
 | .leaf,_=>rfl
 | .dead,h=>by simp[Pm.clean3]
 | .sl f el,h=>by cases f <;>simp[Pm.clean2] at h <;>simp[Pm.clean3,clean2s_clean3s h]
 | .rf f el,h=>by cases f <;>simp[Pm.clean2] at h <;>simp[Pm.clean3,clean2s_clean3s h]
 | .fn el,h=>by simp[Pm.clean2] at h
theorem clean2s_clean3s:∀ {ps:List Pm},clean2s ps=true→clean3s ps=true
 | [],_=>rfl
 | p::ps,h=>by
   simp[clean2s] at h
   simp[clean3s,Pm.clean2_clean3 h.1,clean2s_clean3s h.2]
end
theorem clean2s_append (a b:List Pm):clean2s (a++b)=(clean2s a&&clean2s b):=by
 induction a with
 | nil=>simp[clean2s]
 | cons p ps ih=>simp[clean2s,ih,Bool.and_assoc]
theorem clean2s_rep {n:Nat} {el:List Pm} (h:clean2s el=true):clean2s (rep n el)=true:=by
 induction n with
 | zero=>simp[rep,clean2s]
 | succ n ih=>simp[rep_succ,clean2s_append,ih,h]
theorem R.anyFz {w:World} {Fz Fz':Nat→Prop} {Lt:Nat→Nat→Prop} {g:Nat} {ps ts vs fp} (h:R w Fz Lt g ps ts vs fp) (hc:clean2s ps=true) (hp:∀ f∈fp,¬ Fz' f.b) :
  R w Fz' Lt g ps ts vs fp:=by
 induction h with
 | nil=>exact .nil
 | leaf h _ ih=>simp[clean2s] at hc;exact .leaf h (ih hc.2 hp)
 | dead _ ih=>simp[clean2s] at hc;exact .dead (ih hc.2 hp)
 | slE h _ ih=>simp[clean2s] at hc;exact .slE h (ih hc.2 hp)
 | slS=>simp[clean2s,Pm.clean2] at hc
 | slL=>simp[clean2s,Pm.clean2] at hc
 | slX=>simp[clean2s,Pm.clean2] at hc
 | @slH fl el a n cap ps ts vs fp _ ih =>
   simp only[clean2s,Bool.and_eq_true] at hc
   exact .slH (ih hc.2 hp)
 | slO h0 hb hz hl hn' hs hr hf hi _ ih1 ih2 =>
   simp[clean2s,Pm.clean2] at hc
   exact .slO h0 hb (hp _ (List.mem_cons_self ..)) hl hn' hs hr hf (ih1 (clean2s_rep hc.1) fun f hf=>hp f (by simp[hf])) (ih2 hc.2 fun f hf=>hp f (by simp[hf]))
 | rfS=>simp[clean2s,Pm.clean2] at hc
 | rfL=>simp[clean2s,Pm.clean2] at hc
 | rfX=>simp[clean2s,Pm.clean2] at hc
 | rfO h0 hb hz hl hs hr hf hi _ ih1 ih2 =>
   simp[clean2s,Pm.clean2] at hc
   exact .rfO h0 hb (hp _ (List.mem_cons_self ..)) hl hs hr hf (ih1 hc.1 fun f hf=>hp f (by simp[hf])) (ih2 hc.2 fun f hf=>hp f (by simp[hf]))
 | fnv=>simp[clean2s,Pm.clean2] at hc
end Go.Desk
end
section
namespace Go.Desk
open Go
section
variable {w:World} {Fz:Nat→Prop} {Lt:Nat→Nat→Prop} {g:Nat}
theorem rep_get {m j:Nat} {P:List Pm} (h:j<m * P.length):(rep m P)[j]?=P[j % P.length]? :=by
 induction m generalizing j with
 | zero=>simp at h
 | succ m ih =>
   rw[rep_succ]
   rcases Nat.lt_or_ge j P.length with hl | hl
   ·rw[List.getElem?_append_left hl,Nat.mod_eq_of_lt hl]
   ·rw[List.getElem?_append_right hl,ih (by rw[Nat.succ_mul] at h;omega),Nat.mod_eq_sub_mod hl]
theorem ix_mod {sz e c:Nat} (h:c<sz):ix sz e c % sz=c:=by
 unfold ix
 split
 ·omega
 ·rw[Nat.add_comm,Nat.add_mul_mod_self_right,Nat.mod_eq_of_lt h]
theorem ix_eq {sz e c:Nat} (h:c<sz):ix sz e c=e * sz+c:=by
 unfold ix
 split
 ·omega
 ·rfl
theorem take_cons_drop {α:Type} {l:List α} {j:Nat} {x:α} (h:l[j]?=some x):l=l.take j++([x]++l.drop (j+1)):=by
 have hj:j<l.length:=by
  rcases Nat.lt_or_ge j l.length with h' | h'
  ·exact h'
  ·simp[List.getElem?_eq_none h'] at h
 have hx:l[j]=x:=by simpa [List.getElem?_eq_getElem hj] using h
 conv=>lhs;rw[← List.take_append_drop j l,List.drop_eq_getElem_cons hj,hx]
 simp
theorem set_eq_take_drop {α:Type} {l:List α} {j:Nat} {x:α} (h:j<l.length):l.set j x=l.take j++([x]++l.drop (j+1)):=by
 rw[List.set_eq_take_append_cons_drop,if_pos h];simp
theorem R.at {ps ts vs fp} {j:Nat} {p:Pm} (h:R w Fz Lt g ps ts vs fp) (hp:ps[j]?=some p) :
  ∃ t v f1 f f2,ts[j]?=some t∧vs[j]?=some v∧fp=f1++(f++f2)∧R w Fz Lt g (ps.take j) (ts.take j) (vs.take j) f1 ∧
   R w Fz Lt g [p] [t] [v] f∧R w Fz Lt g (ps.drop (j+1)) (ts.drop (j+1)) (vs.drop (j+1)) f2:=by
 have hj:j<ps.length:=by
  rcases Nat.lt_or_ge j ps.length with h' | h'
  ·exact h'
  ·simp[List.getElem?_eq_none h'] at hp
 rw[take_cons_drop hp] at h
 obtain ⟨t1,t2,v1,v2,f1,f2,rfl,rfl,rfl,ha,hb⟩:=h.split
 obtain ⟨u1,u2,x1,x2,k1,k2,rfl,rfl,rfl,hc,hd⟩:=hb.split
 have l1:=ha.length_eq
 have l2:=hc.length_eq
 simp at l1 l2
 obtain ⟨t,rfl⟩:∃ t,u1=[t]:=List.length_eq_one_iff.1 l2.1
 obtain ⟨v,rfl⟩:∃ v,x1=[v]:=List.length_eq_one_iff.1 l2.2
 have e1:t1.length=j:=by omega
 have e2:v1.length=j:=by omega
 refine ⟨t,v,f1,k1,k2,?_,?_,rfl,?_,hc,?_⟩
 ·rw[List.getElem?_append_right (by omega)];simp[e1]
 ·rw[List.getElem?_append_right (by omega)];simp[e2]
 ·have a1:List.take j (t1++([t]++u2))=t1:=by rw[← e1];simp
  have a2:List.take j (v1++([v]++x2))=v1:=by rw[← e2];simp
  rw[a1,a2];exact ha
 ·have a1:List.drop (j+1) (t1++([t]++u2))=u2:=by rw[← e1];simp
  have a2:List.drop (j+1) (v1++([v]++x2))=x2:=by rw[← e2];simp
  rw[a1,a2];exact hd
def cRow (w:World):List Pm→List Value→Option (Nat × Nat)→List (Nat × Nat)→Option (List Pm × List Value × Option (Nat × Nat))
 | ps,vs,base,[]=>some (ps,vs,base)
 | ps,vs,_,(e,c)::path=>match ps[c]? with
   | some (.sl .own el)=>match vs[ix ps.length e c]? with
     | some (.slice (some ⟨b,off,none⟩) n _)=>match w.heap[b]? with
       | some (.cells row _ _)=>cRow w el (seg row off (n * el.length)) (some (b,off)) path
       | _=>none
     | _=>none
   | _=>none
structure RowIs (w:World) (Fz:Nat→Prop) (Lt:Nat→Nat→Prop) (b o len:Nat) (rv:List Value) (row:Array Value) (e:TypeId) (fr:Nat × Nat) (fpO:Fp):Prop where
 hb:w.heap[b]?=some (.cells row e fr)
 seg:seg row o len=rv
 size:o+len≤row.size
 free:∀ j,o≤j→j<o+len→¬ (fr.1≤j∧j<fr.2)
 own:∃ f∈fpO,f.b=b∧f.lo=o∧f.hi=o+len∧f.l=o+len
theorem fp_apart {f1 fp1 f2:Fp} {x:Fe} (h:((f1++((x::fp1++[])++f2)).map Fe.b).Nodup) :
  (fp1.map Fe.b).Nodup∧x.b ∉ fp1.map Fe.b∧∀ f'∈f1++f2,f'.b≠x.b∧f'.b ∉ fp1.map Fe.b:=by
 simp only[List.append_nil,List.map_append,List.map_cons,List.nodup_append,List.cons_append,List.nodup_cons,List.mem_append,List.mem_map,List.mem_cons,not_or] at h ⊢
 obtain ⟨h1,⟨⟨h2,h3⟩,h4,h5,h6⟩,h7⟩:=h
 refine ⟨h4,h2,?_⟩
 rintro f' (hf | hf)
 ·refine ⟨h7 _ ⟨f',hf,rfl⟩ _ (.inl rfl),?_⟩
  rintro ⟨q,hq,hqe⟩
  exact h7 _ ⟨f',hf,rfl⟩ _ (.inr (.inl ⟨q,hq,rfl⟩)) hqe.symm
 ·refine ⟨fun hE=>h3 ⟨f',hf,hE⟩,?_⟩
  rintro ⟨q,hq,hqe⟩
  exact h6 _ ⟨q,hq,rfl⟩ _ ⟨f',hf,rfl⟩ hqe
theorem R.focusW (path:List (Nat × Nat)):∀ {P T V fp m el rcs} (base0:Option (Nat × Nat)),R w Fz Lt g (rep m P) T V fp→(fp.map Fe.b).Nodup →
  rowAt P T path=some (el,rcs)→rcs≠[] →
  ∃ m' rv base fpI fpO,cRow w P V base0 path=some (el,rv,base)∧R w Fz Lt g (rep m' el) rcs rv fpI∧fp.Perm (fpI++fpO) ∧
   (path=[]→m'=m∧rv=V∧base=base0∧fpO=[]) ∧
   (path≠[]→∃ b o row e fr,base=some (b,o)∧RowIs w Fz Lt b o (m' * el.length) rv row e fr fpO) ∧
   ∀ (W:Nat→Nat→Prop) (w':World) rcs' rv' fpI',Ext w w' W→(∀ b j,Fz b→¬ W b j)→(∀ b j,Lt b j→¬ W b j) →
    (∀ f∈fpO,(∀ b o,base=some (b,o)→f.b≠b)→∀ j,f.lo≤j→j<f.hi→¬ W f.b j) →
    R w' Fz Lt g (rep m' el) rcs' rv' fpI' →
    (∀ b o,base=some (b,o)→path≠[]→∃ row' e fr,w'.heap[b]?=some (.cells row' e fr)∧seg row' o (m' * el.length)=rv') →
    ∃ fp',R w' Fz Lt g (rep m P) (rowSet P T path (fun _=>rcs')) (if path=[] then rv' else V) fp'∧fp'.Perm (fpI'++fpO):=by
 induction path with
 | nil =>
   intro P T V fp m el rcs base0 h hn hr hne
   simp only[rowAt,Option.some.injEq,Prod.mk.injEq] at hr
   obtain ⟨rfl,rfl⟩:=hr
   refine ⟨m,V,base0,fp,[],rfl,h,by simp,fun _=>⟨rfl,rfl,rfl,rfl⟩,fun hc=>absurd rfl hc,?_⟩
   intro W w' rcs' rv' fpI' _ _ _ _ hR _
   exact ⟨fpI',by simpa [rowSet] using hR,by simp⟩
 | cons ec path ih =>
   obtain ⟨e,c⟩:=ec
   intro P T V fp m el rcs base0 h hn hr hne
   simp only[rowAt] at hr
   cases hP:P[c]? with
   | none=>simp[hP] at hr
   | some p =>
     cases p with
     | sl fl el1 =>
       cases fl with
       | own =>
         simp only[hP] at hr
         have hc:c<P.length:=by
          rcases Nat.lt_or_ge c P.length with h' | h'
          ·exact h'
          ·simp[List.getElem?_eq_none h'] at hP
         cases hT:T[ix P.length e c]? with
         | none=>simp[hT] at hr
         | some t =>
           cases t with
           | lst n cs' =>
             simp only[hT] at hr
             generalize hj:ix P.length e c=j at *
             have hjT:j<T.length:=by
              rcases Nat.lt_or_ge j T.length with h' | h'
              ·exact h'
              ·simp[List.getElem?_eq_none h'] at hT
             have hlen:=h.length_eq
             rw[rep_length] at hlen
             have hrep:(rep m P)[j]?=some (.sl .own el1):=by
              rw[rep_get (by omega),← hj,ix_mod hc,hP]
             obtain ⟨t,v,f1,f,f2,ht,hv,rfl,ha,hm,hz⟩:=h.at hrep
             rw[hT] at ht
             obtain rfl:=Option.some.inj ht
             cases hm with
             | slE hf r =>
               exfalso
               cases path with
               | nil=>simp[rowAt] at hr;exact hne hr.2
               | cons ec' p'=>obtain ⟨e',c'⟩:=ec';simp only[rowAt] at hr;split at hr <;>simp at hr
             | @slO b off _ cap row ety fr _ _ vs' _ _ _ fp₁ fp₂ h0 hb hFz hLt hcap hs hsz hfree hi r =>
               cases r
               obtain ⟨hnI,hbn,hnn⟩:=fp_apart hn
               obtain ⟨m',rv,base,fpI,fpO,hcr,hRI,hperm,hnil,hcons,hset⟩:=ih (some (b,off)) hi hnI hr hne
               have hvs:cRow w P V base0 ((e,c)::path)=some (el,rv,base):=by
                simp only[cRow,hP,hj,hv,hb,hs];exact hcr
               refine ⟨m',rv,base,fpI,⟨b,off,off+n * el1.length,off+n * el1.length,off+cap * el1.length⟩::(fpO++(f1++f2)),hvs,hRI,?_,fun hc=>by simp at hc,fun _ => ?_,?_⟩
               ·rw[List.perm_iff_count] at hperm ⊢
                intro a
                have:=hperm a
                simp only[List.count_append,List.count_cons,List.append_nil,List.cons_append] at this ⊢
                omega
               ·cases path with
                | nil =>
                  obtain ⟨rfl,rfl,rfl,rfl⟩:=hnil rfl
                  simp only[rowAt,Option.some.injEq,Prod.mk.injEq] at hr
                  obtain ⟨rfl,rfl⟩:=hr
                  exact ⟨b,off,row,ety,fr,rfl,hb,hs,Nat.le_trans (Nat.add_le_add_left (Nat.mul_le_mul_right _ hcap) _) hsz,
                   fun j a c=>hfree j a (Nat.lt_of_lt_of_le c (Nat.add_le_add_left (Nat.mul_le_mul_right _ hcap) _)),_,List.mem_cons_self ..,rfl,rfl,rfl,rfl⟩
                | cons x y =>
                  obtain ⟨b',o',row',e',fr',hbase,hrow⟩:=hcons (by simp)
                  obtain ⟨fe,hfe,hx⟩:=hrow.own
                  exact ⟨b',o',row',e',fr',hbase,hrow.hb,hrow.seg,hrow.size,hrow.free,fe,by simp[hfe],hx⟩
               ·intro W w' rcs' rv' fpI' hx wF wL wO hR hbk
                have hbase_in:∀ b' o',base=some (b',o')→b'=b∨b'∈fp₁.map Fe.b:=by
                 intro b' o' hB
                 cases path with
                 | nil =>
                   obtain ⟨_,_,hb',_⟩:=hnil rfl
                   rw[hb'] at hB;simp at hB;exact .inl hB.1.symm
                 | cons x y =>
                   obtain ⟨b'',o'',_,_,_,hB',hrow⟩:=hcons (by simp)
                   rw[hB] at hB';simp at hB'
                   obtain ⟨fe,hfe,hx',_⟩:=hrow.own
                   refine .inr (List.mem_map.2 ⟨fe,hperm.mem_iff.2 (by simp[hfe]),?_⟩)
                   rw[hx',hB'.1]
                have hside:∀ f'∈f1++f2,∀ j',f'.lo≤j'→j'<f'.hi→¬ W f'.b j' :=by
                 intro f' hf'
                 refine wO f' (List.mem_cons_of_mem _ (List.mem_append_right _ hf')) fun b' o' hB hE => ?_
                 rcases hbase_in b' o' hB with rfl | hm
                 ·exact (hnn f' hf').1 hE
                 ·exact (hnn f' hf').2 (hE ▸ hm)
                have hA:=ha.mono (Fz' :=Fz) (Lt' :=Lt) hx (fun _ h=>h) (fun _ _ h=>h) wF wL (fun f' hf'=>⟨hside f' (by simp[hf']),(ha.lt f' hf').2.2.2,?lta⟩)
                case lta=>exact (R.noLtAbove ha f' hf')
                have hB:=hz.mono (Fz' :=Fz) (Lt' :=Lt) hx (fun _ h=>h) (fun _ _ h=>h) wF wL (fun f' hf'=>⟨hside f' (by simp[hf']),(hz.lt f' hf').2.2.2,?ltb⟩)
                case ltb=>exact (R.noLtAbove hz f' hf')
                obtain ⟨row1,c1,c2,c3⟩:=hx.cells b row ety fr hb
                obtain ⟨fp1',vs1,hRC,hP1,hseg⟩:∃ fp1' vs1,R w' Fz Lt g (rep n el1) (rowSet el1 cs' path (fun _=>rcs')) vs1 fp1'∧fp1'.Perm (fpI'++fpO)∧seg row1 off (n * el1.length)=vs1:=by
                 have hsub:=hset W w' rcs' rv' fpI' hx wF wL (fun f' hf' hne'=>wO f' (by simp[hf']) hne') hR
                  (fun b' o' hB hp=>hbk b' o' hB (by simp))
                 obtain ⟨fp1',hRC,hP1⟩:=hsub
                 cases path with
                 | nil =>
                   obtain ⟨rfl,rfl,hbb,rfl⟩:=hnil rfl
                   simp only[rowAt,Option.some.injEq,Prod.mk.injEq] at hr
                   obtain ⟨rfl,rfl⟩:=hr
                   obtain ⟨row',e',fr',hb',hs'⟩:=hbk b off hbb (by simp)
                   rw[c1] at hb'
                   obtain ⟨rfl,rfl,rfl⟩:row1=row'∧ety=e'∧fr=fr' :=by simpa using hb'
                   exact ⟨fp1',rv',by simpa using hRC,hP1,hs'⟩
                 | cons x y =>
                   refine ⟨fp1',vs',by simpa using hRC,hP1,?_⟩
                   rw[← hs]
                   refine seg_congr fun j' a' c'=>c3 j' ?_
                   refine wO ⟨b,off,off+n * el1.length,off+n * el1.length,off+cap * el1.length⟩ (List.mem_cons_self ..) (fun b' o' hB hE => ?_) j' a' c'
                   obtain ⟨b'',o'',_,_,_,hB',hrow⟩:=hcons (by simp)
                   rw[hB] at hB';simp at hB'
                   obtain ⟨fe,hfe,hx',_⟩:=hrow.own
                   refine hbn (List.mem_map.2 ⟨fe,hperm.mem_iff.2 (by simp[hfe]),?_⟩)
                   rw[hx',← hB'.1];exact hE.symm
                have hcell:R w' Fz Lt g [.sl .own el1] [.lst n (rowSet el1 cs' path (fun _=>rcs'))] [.slice (some ⟨b,off,none⟩) n cap] (⟨b,off,off+n * el1.length,off+n * el1.length,off+cap * el1.length⟩::fp1'++[]) :=
                 .slO h0 c1 hFz hLt hcap hseg (by omega) hfree hRC .nil
                refine ⟨f1++((⟨b,off,off+n * el1.length,off+n * el1.length,off+cap * el1.length⟩::fp1'++[])++f2),?_,?_⟩
                ·have:=hA.append (hcell.append hB)
                 rw[if_neg (by simp)]
                 have e1:rep m P=(rep m P).take j++([.sl .own el1]++(rep m P).drop (j+1)):=take_cons_drop hrep
                 have e2:V=V.take j++([.slice (some ⟨b,off,none⟩) n cap]++V.drop (j+1)):=take_cons_drop hv
                 have e3:rowSet P T ((e,c)::path) (fun _=>rcs')=T.take j++([.lst n (rowSet el1 cs' path (fun _=>rcs'))]++T.drop (j+1)):=by
                  simp only[rowSet,hP,hj,hT]
                  exact set_eq_take_drop hjT
                 rw[e3]
                 conv=>lhs
                 rw[e1,e2]
                 exact this
                ·rw[List.perm_iff_count] at hP1 ⊢
                 intro a
                 have:=hP1 a
                 simp only[List.count_append,List.count_cons,List.append_nil,List.cons_append] at this ⊢
                 omega
           | _=>simp[hT] at hr
       | _=>simp[hP] at hr
     | _=>simp[hP] at hr
theorem R.focus {W:Nat→Nat→Prop} (path:List (Nat × Nat)) {P T V fp m el rcs} (base0:Option (Nat × Nat)) (h:R w Fz Lt g (rep m P) T V fp) (hn:(fp.map Fe.b).Nodup)
  (hr:rowAt P T path=some (el,rcs)) (hne:rcs≠[]) :
  ∃ m' rv base fpI fpO,cRow w P V base0 path=some (el,rv,base)∧R w Fz Lt g (rep m' el) rcs rv fpI∧fp.Perm (fpI++fpO) ∧
   (path=[]→m'=m∧rv=V∧base=base0∧fpO=[]) ∧
   (path≠[]→∃ b o row e fr,base=some (b,o)∧RowIs w Fz Lt b o (m' * el.length) rv row e fr fpO) ∧
   ∀ (w':World) rcs' rv' fpI',Ext w w' W→(∀ b j,Fz b→¬ W b j)→(∀ b j,Lt b j→¬ W b j) →
    (∀ f∈fpO,(∀ b o,base=some (b,o)→f.b≠b)→∀ j,f.lo≤j→j<f.hi→¬ W f.b j) →
    R w' Fz Lt g (rep m' el) rcs' rv' fpI' →
    (∀ b o,base=some (b,o)→path≠[]→∃ row' e fr,w'.heap[b]?=some (.cells row' e fr)∧seg row' o (m' * el.length)=rv') →
    ∃ fp',R w' Fz Lt g (rep m P) (rowSet P T path (fun _=>rcs')) (if path=[] then rv' else V) fp'∧fp'.Perm (fpI'++fpO):=by
 obtain ⟨m',rv,base,fpI,fpO,h1,h2,h3,h4,h5,h6⟩:=R.focusW path base0 h hn hr hne
 exact ⟨m',rv,base,fpI,fpO,h1,h2,h3,h4,h5,h6 W⟩
end
end Go.Desk
end
section
namespace Go.Desk
open Go
theorem getN_eq:∀ {cs:List T} {i n:Nat} {r:List T},getN cs i n=some r→r=(cs.drop i).take n∧r.length=n∧(0<n→i+n≤cs.length)
 | cs,i,0,r,h=>by simp[getN] at h;simp[h.symm]
 | cs,i,n+1,r,h=>by
   simp only[getN] at h
   cases hc:cs[i]? with
   | none=>simp[hc] at h
   | some t =>
     simp only[hc] at h
     cases hr:getN cs (i+1) n with
     | none=>simp[hr] at h
     | some r' =>
       simp only[hr,Option.some.injEq] at h
       obtain ⟨h1,h2,h3⟩:=getN_eq hr
       have hi:i<cs.length:=by
        rcases Nat.lt_or_ge i cs.length with h' | h'
        ·exact h'
        ·simp[List.getElem?_eq_none h'] at hc
       have ht:cs[i]=t:=by simpa [List.getElem?_eq_getElem hi] using hc
       refine ⟨?_,by simp[← h,h2],fun _ => ?_⟩
       ·rw[← h,h1,List.drop_eq_getElem_cons hi,List.take_succ_cons,ht]
       ·rcases Nat.eq_zero_or_pos n with rfl | hn
        ·omega
        ·have:=h3 hn;omega
theorem getN_some {cs:List T} {i n:Nat} (h:i+n≤cs.length):getN cs i n=some ((cs.drop i).take n):=by
 induction n generalizing i with
 | zero=>simp[getN]
 | succ n ih =>
   have hi:i<cs.length:=by omega
   simp only[getN,List.getElem?_eq_getElem hi,ih (i:=i+1) (by omega),Option.some.injEq]
   rw[List.drop_eq_getElem_cons hi,List.take_succ_cons]
theorem getP_eq:∀ {cs:List Pm} {i n:Nat} {r:List Pm},getP cs i n=some r→r=(cs.drop i).take n∧r.length=n∧(0<n→i+n≤cs.length)
 | cs,i,0,r,h=>by simp[getP] at h;simp[h.symm]
 | cs,i,n+1,r,h=>by
   simp only[getP] at h
   cases hc:cs[i]? with
   | none=>simp[hc] at h
   | some t =>
     simp only[hc] at h
     cases hr:getP cs (i+1) n with
     | none=>simp[hr] at h
     | some r' =>
       simp only[hr,Option.some.injEq] at h
       obtain ⟨h1,h2,h3⟩:=getP_eq hr
       have hi:i<cs.length:=by
        rcases Nat.lt_or_ge i cs.length with h' | h'
        ·exact h'
        ·simp[List.getElem?_eq_none h'] at hc
       have ht:cs[i]=t:=by simpa [List.getElem?_eq_getElem hi] using hc
       refine ⟨?_,by simp[← h,h2],fun _ => ?_⟩
       ·rw[← h,h1,List.drop_eq_getElem_cons hi,List.take_succ_cons,ht]
       ·rcases Nat.eq_zero_or_pos n with rfl | hn
        ·omega
        ·have:=h3 hn;omega
theorem set_step {α:Type} {cs:List α} {t:α} {ts:List α} {i:Nat} (h:i+(ts.length+1)≤cs.length) :
  (cs.set i t).take (i+1)++(ts++(cs.set i t).drop (i+1+ts.length))=cs.take i++(t::ts++cs.drop (i+(ts.length+1))):=by
 apply List.ext_getElem?
 intro k
 simp only[List.getElem?_append,List.getElem?_take,List.getElem?_drop,List.getElem?_set,List.length_take,List.length_set,List.getElem?_cons,List.cons_append]
 grind
theorem setN_eq {cs ts:List T} {i:Nat} (h:i+ts.length≤cs.length):setN cs i ts=cs.take i++(ts++cs.drop (i+ts.length)):=by
 induction ts generalizing cs i with
 | nil=>simp[setN]
 | cons t ts ih =>
   simp only[List.length_cons] at h ⊢
   simp only[setN]
   rw[ih (by simp;omega),set_step h]
theorem setPs_eq {cs ts:List Pm} {i:Nat} (h:i+ts.length≤cs.length):setPs cs i ts=cs.take i++(ts++cs.drop (i+ts.length)):=by
 induction ts generalizing cs i with
 | nil=>simp[setPs]
 | cons t ts ih =>
   simp only[List.length_cons] at h ⊢
   simp only[setPs]
   rw[ih (by simp;omega),set_step h]
theorem cut3 {α:Type} (l:List α) (i n:Nat):l=l.take i++((l.drop i).take n++l.drop (i+n)):=by
 rw[← List.drop_drop,List.take_append_drop,List.take_append_drop]
theorem cut_eq {α:Type} {l t1 u1 u2:List α} {N i n:Nat} (h:l=t1++(u1++u2)) (hl:l.length=N) (h1:t1.length=min i N) (h2:u1.length=min n (N - i)) :
  l.take i=t1∧(l.drop i).take n=u1∧l.drop (i+n)=u2:=by
 subst h
 simp only[List.length_append] at hl
 rcases Nat.le_total i N with hi | hi
 ·have e1:t1.length=i:=by omega
  subst e1
  refine ⟨by simp,?_,?_⟩
  ·rw[List.drop_left]
   rcases Nat.le_total n (N - t1.length) with hn | hn
   ·have e2:u1.length=n:=by omega
    rw[← e2,List.take_left]
   ·have e2:u2=[]:=List.length_eq_zero_iff.1 (by omega)
    subst e2
    simp only[List.append_nil]
    exact List.take_of_length_le (by omega)
  ·rw[← List.drop_drop,List.drop_left]
   rcases Nat.le_total n (N - t1.length) with hn | hn
   ·have e2:u1.length=n:=by omega
    rw[← e2,List.drop_left]
   ·have e2:u2=[]:=List.length_eq_zero_iff.1 (by omega)
    subst e2
    simp only[List.append_nil]
    exact List.drop_of_length_le (by omega)
 ·have e1:u1=[]:=List.length_eq_zero_iff.1 (by omega)
  have e2:u2=[]:=List.length_eq_zero_iff.1 (by omega)
  subst e1 e2
  simp only[List.append_nil]
  refine ⟨List.take_of_length_le (by omega),?_,List.drop_of_length_le (by omega)⟩
  rw[List.drop_of_length_le (by omega)];simp
section
variable {w w':World} {Fz Fz':Nat→Prop} {Lt Lt':Nat→Nat→Prop} {g:Nat}
theorem R.range {ps ts vs fp} (h:R w Fz Lt g ps ts vs fp) (i n:Nat) :
  ∃ f1 f f2,fp=f1++(f++f2)∧R w Fz Lt g (ps.take i) (ts.take i) (vs.take i) f1 ∧
   R w Fz Lt g ((ps.drop i).take n) ((ts.drop i).take n) ((vs.drop i).take n) f∧R w Fz Lt g (ps.drop (i+n)) (ts.drop (i+n)) (vs.drop (i+n)) f2:=by
 have hl:=h.length_eq
 have h' :=h
 rw[cut3 ps i n] at h'
 obtain ⟨t1,t2,v1,v2,f1,f2,ht,hv,rfl,ha,hb⟩:=h'.split
 obtain ⟨u1,u2,x1,x2,k1,k2,ht2,hv2,rfl,hc,hd⟩:=hb.split
 have la:=ha.length_eq
 have lc:=hc.length_eq
 subst ht2;subst hv2
 have e1:=cut_eq (N:=ps.length) (i:=i) (n:=n) ht hl.1 (by rw[la.1];simp) (by rw[lc.1];simp)
 have e2:=cut_eq (N:=ps.length) (i:=i) (n:=n) hv hl.2 (by rw[la.2];simp) (by rw[lc.2];simp)
 obtain ⟨rfl,rfl,rfl⟩:=e1
 obtain ⟨rfl,rfl,rfl⟩:=e2
 exact ⟨f1,k1,k2,rfl,ha,hc,hd⟩
theorem rep_cols {m e c n:Nat} {el p:List Pm} (hp:getP el c n=some p) (hn:0<n) (hlen:ix el.length e c+n≤m * el.length) :
  ((rep m el).drop (ix el.length e c)).take n=p:=by
 obtain ⟨rfl,_,hle⟩:=getP_eq hp
 have hle:=hle hn
 have hc:c<el.length:=by omega
 rw[ix_eq hc] at hlen ⊢
 apply List.ext_getElem?
 intro k
 rw[List.getElem?_take,List.getElem?_take]
 split
 ·rename_i hk
  rw[List.getElem?_drop,List.getElem?_drop,rep_get (by omega)]
  congr 1
  have:(e * el.length+c+k)=(c+k)+e * el.length:=by omega
  rw[this,Nat.add_mul_mod_self_right,Nat.mod_eq_of_lt (by omega)]
 ·rfl
theorem R.sub {m e c n:Nat} {el p rcs cs rv fp} (h:R w Fz Lt g (rep m el) rcs rv fp) (hp:getP el c n=some p)
  (hc:getN rcs (ix el.length e c) n=some cs) :
  ∃ f,(∀ x∈f,x∈fp)∧R w Fz Lt g p cs ((rv.drop (ix el.length e c)).take n) f:=by
 rcases Nat.eq_zero_or_pos n with rfl | hn
 ·simp[getP] at hp;simp[getN] at hc
  subst hp hc
  exact ⟨[],by simp,by simpa using R.nil⟩
 ·obtain ⟨rfl,_,hle⟩:=getN_eq hc
  have hle:=hle hn
  rw[h.length_eq.1,rep_length] at hle
  obtain ⟨f1,f,f2,rfl,ha,hb,hd⟩:=h.range (ix el.length e c) n
  refine ⟨f,by simp +contextual,?_⟩
  rw[rep_cols hp hn hle] at hb
  exact hb
theorem R.resub {m e c n:Nat} {el p rcs cs rv fp} (h:R w Fz Lt g (rep m el) rcs rv fp) (hp:getP el c n=some p)
  (hc:getN rcs (ix el.length e c) n=some cs) (hn:0<n) :
  ∃ f1 f f2,fp=f1++(f++f2)∧ix el.length e c+n≤m * el.length∧R w Fz Lt g p cs ((rv.drop (ix el.length e c)).take n) f ∧
   ∀ (w':World) (W:Nat→Nat→Prop) cs' vs' f',Ext w w' W→(∀ b j,Fz b→¬ W b j)→(∀ b j,Lt b j→¬ W b j) →
    (∀ x∈f1++f2,∀ j,x.lo≤j→j<x.hi→¬ W x.b j)→R w' Fz Lt g p cs' vs' f' →
    R w' Fz Lt g (rep m el) (setN rcs (ix el.length e c) cs') (rv.take (ix el.length e c)++(vs'++rv.drop (ix el.length e c+n))) (f1++(f'++f2)):=by
 obtain ⟨hcs,hl,hle⟩:=getN_eq hc
 have hle:=hle hn
 have hlr:=h.length_eq
 rw[rep_length] at hlr
 rw[hlr.1] at hle
 obtain ⟨f1,f,f2,rfl,ha,hb,hd⟩:=h.range (ix el.length e c) n
 have hb0:=hb
 rw[rep_cols hp hn hle,← hcs] at hb
 refine ⟨f1,f,f2,rfl,hle,hb,?_⟩
 intro w' W cs' vs' f' hx wF wL wO hR
 have hpl:=hR.length_eq
 have hpn:p.length=n:=(getP_eq hp).2.1
 rw[setN_eq (by omega),hpl.1,hpn]
 have hA:=ha.mono (Fz' :=Fz) (Lt' :=Lt) hx (fun _ h=>h) (fun _ _ h=>h) wF wL (fun x hx'=>⟨wO x (by simp[hx']),(ha.lt x hx').2.2.2,ha.noLtAbove x hx'⟩)
 have hD:=hd.mono (Fz' :=Fz) (Lt' :=Lt) hx (fun _ h=>h) (fun _ _ h=>h) wF wL (fun x hx'=>⟨wO x (by simp[hx']),(hd.lt x hx').2.2.2,hd.noLtAbove x hx'⟩)
 have:=hA.append (hR.append hD)
 rw[cut3 (rep m el) (ix el.length e c) n,rep_cols hp hn hle]
 exact this
theorem R.resubP {c n:Nat} {P p cs rcs rv fp} (h:R w Fz Lt g P rcs rv fp) (hp:getP P c n=some p)
  (hc:getN rcs c n=some cs) (hn:0<n) :
  ∃ f1 f f2,fp=f1++(f++f2)∧c+n≤P.length∧R w Fz Lt g p cs ((rv.drop c).take n) f ∧
   ∀ (w':World) (Lt':Nat→Nat→Prop) (W:Nat→Nat→Prop) p' cs' vs' f',Ext w w' W→(∀ b j,Lt b j→Lt' b j)→(∀ b j,Fz b→¬ W b j)→(∀ b j,Lt b j→¬ W b j) →
    (∀ x∈f1++f2,(∀ j,x.lo≤j→j<x.hi→¬ W x.b j)∧∀ j,x.l≤j→¬ Lt' x.b j)→R w' Fz Lt' g p' cs' vs' f'→p'.length=n →
    R w' Fz Lt' g (setPs P c p') (setN rcs c cs') (rv.take c++(vs'++rv.drop (c+n))) (f1++(f'++f2)):=by
 obtain ⟨hcs,hl,hle⟩:=getN_eq hc
 obtain ⟨hps,hpl,_⟩:=getP_eq hp
 have hle:=hle hn
 have hlr:=h.length_eq
 rw[hlr.1] at hle
 obtain ⟨f1,f,f2,rfl,ha,hb,hd⟩:=h.range c n
 rw[← hcs,← hps] at hb
 refine ⟨f1,f,f2,rfl,hle,hb,?_⟩
 intro w' Lt' W p' cs' vs' f' hx hL wF wL wO hR hp'
 have hpl' :=hR.length_eq
 rw[setN_eq (by omega),setPs_eq (by omega),hpl'.1,hp']
 have hA:=ha.mono (Fz' :=Fz) (Lt' :=Lt') hx (fun _ h=>h) hL wF wL (fun x hx'=>⟨(wO x (by simp[hx'])).1,(ha.lt x hx').2.2.2,(wO x (by simp[hx'])).2⟩)
 have hD:=hd.mono (Fz' :=Fz) (Lt' :=Lt') hx (fun _ h=>h) hL wF wL (fun x hx'=>⟨(wO x (by simp[hx'])).1,(hd.lt x hx').2.2.2,(wO x (by simp[hx'])).2⟩)
 exact hA.append (hR.append hD)
end
end Go.Desk
end
section
namespace Go.Desk
open Go
structure Ctx where
 P:Program
 E:Env
 w0:World
 Fz:Nat→Prop
 mfp:Fp
 pinv:Nat→List Value
 fx:List (Nat × Value)
def Mut (mfp:Fp) (b j:Nat):Prop:=∃ y∈mfp,y.b=b∧y.lo≤j∧j<y.t
abbrev Ctx.Mut (C:Ctx):Nat→Nat→Prop:=Desk.Mut C.mfp
def Ctx.Ok (C:Ctx) (f:Fe):Prop:=C.w0.heap.size≤f.b∨∃ y∈C.mfp,y.b=f.b∧y.lo≤f.lo∧f.t≤y.t
def CellsOf (agg:Bool) (v:Value) (vs:List Value):Prop:=if agg then v = .agg vs.toArray else vs=[v]
theorem CellsOf.uniq {a:Bool} {v:Value} {vs vs':List Value} (h:CellsOf a v vs) (h':CellsOf a v vs'):vs=vs' :=by
 cases a
 ·simp only[CellsOf] at h h';simp_all
 ·simp only[CellsOf,if_true] at h h'
  subst h;simpa using h'
def RootVals (w:World) (v:Value):Slot→List Value→Option (Nat × Nat)→Prop
 | .val a _ _ _ _,vs,base=>CellsOf a v vs∧base=none
 | .box p _ _ _,vs,base=>∃ b off row e fr,v = .pointer (some ⟨b,off,none⟩)∧w.heap[b]?=some (.cells row e fr)∧vs=seg row off p.length∧base=some (b,off)
 | _,_,_=>False
theorem RootVals.uniq {w:World} {v:Value} {s:Slot} {vs vs':List Value} {b b':Option (Nat × Nat)} (h:RootVals w v s vs b) (h':RootVals w v s vs' b'):vs=vs'∧b=b' :=by
 cases s <;>simp only[RootVals] at h h'
 ·exact ⟨h.1.uniq h'.1,h.2.trans h'.2.symm⟩
 ·obtain ⟨x,off,row,e,fr,rfl,h2,h3,h4⟩:=h
  obtain ⟨y,off',row',e',fr',k1,k2,k3,k4⟩:=h'
  obtain ⟨rfl,rfl⟩:x=y∧off=off' :=by simpa using k1
  rw[h2] at k2
  obtain ⟨rfl,-,-⟩:row=row'∧e=e'∧fr=fr' :=by simpa using k2
  exact ⟨h3.trans k3.symm,h4.trans k4.symm⟩
def pick (rv:List Value) (el:List Pm) (pl:Place):List Value:=(rv.drop (ix el.length pl.e pl.c)).take pl.n
def ViewR (w:World) (vk:Value) (root:Slot) (pl:Place) (v:Value):Prop :=
 ∀ p cs d,root.root=some (p,cs,d)→stale d pl=false →
  ∃ vs0 base0 el rv base,RootVals w vk root vs0 base0∧cRow w p vs0 base0 pl.path=some (el,rv,base)∧CellsOf pl.agg v (pick rv el pl)∧(rowAt p cs pl.path).isSome=true
def PtrR (w:World) (vk:Value) (root:Slot) (pl:Place) (v:Value):Prop :=
 ∀ p cs d,root.root=some (p,cs,d)→staleP d pl=false →
  ∃ vs0 base0 el rv b o,RootVals w vk root vs0 base0∧cRow w p vs0 base0 pl.path=some (el,rv,some (b,o))∧v = .pointer (some ⟨b,o+ix el.length pl.e pl.c,none⟩)∧(rowAt p cs pl.path).isSome=true
def CapsR (w:World) (cv:Nat→Value) (env:List (Nat × Slot)):List (Nat × Place)→List Value→Prop
 | [],[]=>True
 | c::cs,v::vs=>PtrR w (cv c.1) (get env c.1) c.2 v∧CapsR w cv env cs vs
 | _,_=>False
def SlotR (C:Ctx) (w:World) (Lt:Nat→Nat→Prop) (g:Nat) (cv:Nat→Value) (env:List (Nat × Slot)) (k:Nat) (fp:Fp):Slot→Prop
 | .dead=>fp=[]
 | .gone=>fp=[]
 | .und=>fp=[]∧cv k=undef
 | .val a p cs _ pin=>∃ vs,CellsOf a (cv k) vs∧R w C.Fz Lt g p cs vs fp∧(pin≠0→C.pinv pin=vs)
 | .tup n=>fp=[]∧∃ vs:Array Value,cv k = .tuple vs∧vs.size=n∧n≤16∧∀ i,i<n→vs[i]?=some (cv (vslot k i))
 | .box p cs _ pin=>R w C.Fz Lt g [.rf .own p] [.ref cs] [cv k] fp∧(pin≠0→∃ b off row e fr,cv k = .pointer (some ⟨b,off,none⟩)∧w.heap[b]?=some (.cells row e fr)∧seg row off p.length=C.pinv pin)
 | .view k' pl=>fp=[]∧ViewR w (cv k') (get env k') pl (cv k)
 | .ptr k' pl=>fp=[]∧PtrR w (cv k') (get env k') pl (cv k)
 | .clo f caps=>fp=[]∧∃ vs:List Value,cv k = .func (.func f) #[] vs.toArray∧CapsR w cv env caps vs
def seenOk:Slot→Prop
 | .dead=>False
 | .val _ p _ [] _=>noOwns p=false
 | _=>True
structure StW (C:Ctx) (w:World) (a:Act) (σ:AS) (Lt:Nat→Nat→Prop) (cv:Nat→Value) (fp:Nat→Fp):Prop where
 tmps:∀ k,k<1000000→cv k=a.tmps.getD k undef
 slots:∀ k,SlotR C w Lt σ.g cv σ.env k (fp k) (get σ.env k)
 nodup:∀ k,((fp k).map Fe.b).Nodup
 disj:∀ j k,j≠k→∀ x∈fp j,∀ y∈fp k,x.b≠y.b
 wok:∀ k,∀ f∈fp k,C.Ok f
 lt:∀ b j,Lt b j→b<w.heap.size
 looks:∀ j,∀ k∈(get σ.env j).looks,k<1000000∧seenOk (get σ.env k)
 fz:∀ b,C.Fz b→b<C.w0.heap.size∧∀ y∈C.mfp,y.b≠b
 ext:Ext C.w0 w C.Mut
 size:a.tmps.size≤1000000
def St (C:Ctx) (w:World) (a:Act) (σ:AS):Prop:=a.defers=[]∧∃ Lt cv fp,StW C w a σ Lt cv fp
section
variable {C:Ctx} {w:World} {a:Act} {σ:AS} {Lt:Nat→Nat→Prop} {cv:Nat→Value} {fp:Nat→Fp} {g:Nat}
theorem LeafRel.constT {v:Value} {t:T} (h:constT v=some t) (hl:∀ n cs,t ≠ .lst n cs):LeafRel t v:=by
 unfold Desk.constT at h
 split at h <;>simp at h <;>subst h <;>simp_all [LeafRel]
theorem SlotR.rootR {k:Nat} {s:Slot} {p cs d f} (h:SlotR C w Lt g cv σ.env k f s) (hr:s.root=some (p,cs,d)) :
  ∃ vs0 base0 fI,RootVals w (cv k) s vs0 base0∧R w C.Fz Lt g p cs vs0 fI∧(∀ x∈fI,x∈f) ∧
   ((∃ ag pin,s = .val ag p cs d pin∧base0=none∧fI=f) ∨
    (∃ pin b off row e fr,s = .box p cs d pin∧base0=some (b,off)∧cv k = .pointer (some ⟨b,off,none⟩)∧w.heap[b]?=some (.cells row e fr)∧vs0=seg row off p.length∧off+p.length≤row.size ∧
      f=⟨b,off,off+p.length,0,off+p.length⟩::fI∧0<p.length∧¬ C.Fz b∧(∀ j,¬ Lt b j)∧(∀ j,off≤j→j<off+p.length→¬ (fr.1≤j∧j<fr.2)))):=by
 cases s with
 | val ag p' cs' d' pin =>
   simp only[Slot.root,Option.some.injEq,Prod.mk.injEq] at hr
   obtain ⟨rfl,rfl,rfl⟩:=hr
   obtain ⟨vs,h1,h2,_⟩:=h
   exact ⟨vs,none,f,⟨h1,rfl⟩,h2,fun _ h=>h,.inl ⟨ag,pin,rfl,rfl,rfl⟩⟩
 | box p' cs' d' pin =>
   simp only[Slot.root,Option.some.injEq,Prod.mk.injEq] at hr
   obtain ⟨rfl,rfl,rfl⟩:=hr
   obtain ⟨h1,_⟩:=h
   generalize hv:cv k=v at h1
   cases h1 with
   | @rfO b off row e fr _ _ vs' _ _ _ f1 f2 h0 hb hz hl hs hsz hf hi r =>
     cases r
     refine ⟨vs',some (b,off),f1,⟨b,off,row,e,fr,rfl,hb,hs.symm,rfl⟩,hi,by simp +contextual,.inr ⟨pin,b,off,row,e,fr,rfl,rfl,rfl,hb,hs.symm,hsz,by simp,h0,hz,hl,hf⟩⟩
 | _=>simp[Slot.root] at hr
theorem pick_R {m:Nat} {el rcs rv f p cs} {pl:Place} (h:R w C.Fz Lt g (rep m el) rcs rv f) (hp:getP el pl.c pl.n=some p)
  (hc:getN rcs (ix el.length pl.e pl.c) pl.n=some cs):∃ f',(∀ x∈f',x∈f)∧R w C.Fz Lt g p cs (pick rv el pl) f' :=h.sub hp hc
theorem SlotR.atPlace {k:Nat} {s:Slot} {p cs d f} {pl:Place} {v:V} (h:SlotR C w Lt g cv σ.env k f s) (hn:(f.map Fe.b).Nodup)
  (hr:s.root=some (p,cs,d)) (ha:atPlace p cs pl=some v) :
  ∃ vs0 base0,RootVals w (cv k) s vs0 base0∧∀ el rv base,cRow w p vs0 base0 pl.path=some (el,rv,base) →
   ∃ f',(∀ x∈f',x∈f)∧R w C.Fz Lt g v.p v.cs (pick rv el pl) f' :=by
 obtain ⟨vs0,base0,fI,hrv,hR,hsub,hk⟩:=h.rootR hr
 refine ⟨vs0,base0,hrv,fun el rv base hcr => ?_⟩
 unfold Desk.atPlace at ha
 split at ha
 ·simp at ha
 rename_i el' rcs hrow
 split at ha
 ·simp at ha
 rename_i q hq
 split at ha
 ·simp at ha
 rename_i c hc
 simp only[Option.some.injEq] at ha
 subst ha
 have hnI:(fI.map Fe.b).Nodup:=by
  rcases hk with ⟨_,_,_,_,rfl⟩ | ⟨_,_,_,_,_,_,_,_,_,_,_,_,rfl,_⟩
  ·exact hn
  ·simp only[List.map_cons,List.nodup_cons] at hn;exact hn.2
 rcases Nat.eq_zero_or_pos pl.n with hz | hpos
 ·rw[hz] at hq hc
  simp only[getP,getN,Option.some.injEq] at hq hc
  subst hq hc
  exact ⟨[],by simp,by simp only[pick,hz,List.take_zero];exact .nil⟩
 ·have hne:rcs≠[]:=by
   rintro rfl
   have:=(getN_eq hc).2.2 hpos
   simp at this;omega
  rw[← rep_one p] at hR
  obtain ⟨m',rv',base',fpI,fpO,hcr',hRI,hperm,-,-,-⟩:=hR.focus (W:=fun _ _=>False) pl.path base0 hnI hrow hne
  rw[hcr] at hcr'
  obtain ⟨rfl,rfl,rfl⟩:el=el'∧rv=rv'∧base=base' :=by simpa using hcr'
  obtain ⟨f',hf',hR'⟩:=pick_R hRI hq hc
  exact ⟨f',fun x hx=>hsub x (hperm.mem_iff.2 (by simp[hf' x hx])),hR'⟩
end
end Go.Desk
end
section
namespace Go.Desk
open Go
section
variable {C:Ctx} {w w':World} {a:Act} {σ:AS} {Lt Lt':Nat→Nat→Prop} {cv cv':Nat→Value} {fp fp':Nat→Fp} {g g':Nat} {Fz:Nat→Prop}
theorem cRow_keep {W:Nat→Nat→Prop} (hx:Ext w w' W) (path:List (Nat × Nat)):∀ {P T V f m base r},R w Fz Lt g (rep m P) T V f →
  (∀ x∈f,∀ j,x.lo≤j→j<x.hi→¬ W x.b j)→(rowAt P T path).isSome=true→cRow w P V base path=some r→cRow w' P V base path=some r:=by
 induction path with
 | nil=>intro P T V f m base r _ _ _ h;exact h
 | cons ec path ih =>
   obtain ⟨e,c⟩:=ec
   intro P T V f m base r hR hW hTok h
   simp only[cRow] at h ⊢
   cases hP:P[c]? with
   | none=>simp[hP] at h
   | some p =>
     cases p with
     | sl fl el1 =>
       cases fl with
       | own =>
         simp only[hP] at h ⊢
         have hc:c<P.length:=by
          rcases Nat.lt_or_ge c P.length with h' | h'
          ·exact h'
          ·simp[List.getElem?_eq_none h'] at hP
         cases hV:V[ix P.length e c]? with
         | none=>simp[hV] at h
         | some u =>
           generalize hj:ix P.length e c=j at *
           have hjV:j<V.length:=by
            rcases Nat.lt_or_ge j V.length with h' | h'
            ·exact h'
            ·simp[List.getElem?_eq_none h'] at hV
           have hlen:=hR.length_eq
           rw[rep_length] at hlen
           have hrep:(rep m P)[j]?=some (.sl .own el1):=by
            rw[rep_get (by omega),← hj,ix_mod hc,hP]
           obtain ⟨t,v,f1,f0,f2,ht,hv,rfl,-,hm,-⟩:=hR.at hrep
           rw[hV] at hv
           obtain rfl:=Option.some.inj hv
           simp only[rowAt,hP,hj,ht] at hTok
           cases hm with
           | slH r'=>simp at hTok
           | slE hf r'=>obtain ⟨rfl,rfl⟩:=hf rfl;simp[hV] at h
           | @slO b off n cap row ety fr _ cs' vs' _ _ _ fp₁ fp₂ h0 hb hFz hLt hcap hs hsz hfree hi r' =>
             simp only[hV,hb] at h ⊢
             obtain ⟨row1,c1,c2,c3⟩:=hx.cells b row ety fr hb
             simp only[c1]
             have hseg:seg row1 off (n * el1.length)=seg row off (n * el1.length) :=
              seg_congr fun j' a' b'=>c3 j' (hW ⟨b,off,off+n * el1.length,off+n * el1.length,off+cap * el1.length⟩ (by simp) j' a' b')
             rw[hseg,hs]
             rw[hs] at h
             exact ih hi (fun x hx'=>hW x (by simp[hx'])) hTok h
       | _=>simp[hP] at h
     | _=>simp[hP] at h
def KeepsLooks (w w':World) (v:Value) (s:Slot) (v':Value) (s':Slot):Prop :=
 (∀ pl u,ViewR w v s pl u→ViewR w' v' s' pl u)∧(∀ pl u,PtrR w v s pl u→PtrR w' v' s' pl u)
theorem KeepsLooks.same {W:Nat→Nat→Prop} {k:Nat} {s:Slot} {f:Fp} (h:SlotR C w Lt g cv σ.env k f s) (hx:Ext w w' W)
  (hW:∀ x∈f,∀ j,x.lo≤j→j<x.hi→¬ W x.b j):KeepsLooks w w' (cv k) s (cv k) s:=by
 have key:∀ p cs d vs0 base0 path r,s.root=some (p,cs,d)→(rowAt p cs path).isSome=true→RootVals w (cv k) s vs0 base0→cRow w p vs0 base0 path=some r →
   RootVals w' (cv k) s vs0 base0∧cRow w' p vs0 base0 path=some r:=by
  intro p cs d vs0 base0 path r hr hT hv hc
  obtain ⟨vs1,base1,fI,hrv,hR,hsub,hk⟩:=h.rootR hr
  obtain ⟨rfl,rfl⟩:=hv.uniq hrv
  refine ⟨?_,cRow_keep hx path (m:=1) (by rw[rep_one];exact hR) (fun x hx'=>hW x (hsub x hx')) hT hc⟩
  rcases hk with ⟨ag,pin,rfl,rfl,rfl⟩ | ⟨pin,b,off,row,e,fr,rfl,rfl,hcv,hb,rfl,hsz,rfl,_⟩
  ·exact hv
  ·obtain ⟨row1,c1,c2,c3⟩:=hx.cells b row e fr hb
   refine ⟨b,off,row1,e,fr,hcv,c1,?_,rfl⟩
   exact (seg_congr fun j a' b'=>c3 j (hW _ (List.mem_cons_self ..) j a' b')).symm
 refine ⟨fun pl u hV p cs d hr hst => ?_,fun pl u hV p cs d hr hst => ?_⟩
 ·obtain ⟨vs0,base0,el,rv,base,h1,h2,h3,h4⟩:=hV p cs d hr hst
  obtain ⟨k1,k2⟩:=key p cs d vs0 base0 _ _ hr h4 h1 h2
  exact ⟨vs0,base0,el,rv,base,k1,k2,h3,h4⟩
 ·obtain ⟨vs0,base0,el,rv,b,o,h1,h2,h3,h4⟩:=hV p cs d hr hst
  obtain ⟨k1,k2⟩:=key p cs d vs0 base0 _ _ hr h4 h1 h2
  exact ⟨vs0,base0,el,rv,b,o,k1,k2,h3,h4⟩
theorem KeepsLooks.noRoot {v v':Value} {s s':Slot} (h:s'.root=none):KeepsLooks w w' v s v' s' :=
 ⟨fun _ _ _ p cs d hr=>by rw[h] at hr;simp at hr,fun _ _ _ p cs d hr=>by rw[h] at hr;simp at hr⟩
theorem stale_dirtAll (pl:Place):stale dirtAll pl=true:=by
 unfold stale;split <;>rfl
theorem staleP_dirtAll (pl:Place):staleP dirtAll pl=true:=by
 unfold staleP;split <;>rfl
theorem KeepsLooks.all {v v':Value} {s s':Slot} (h:∀ p cs d,s'.root=some (p,cs,d)→d=dirtAll):KeepsLooks w w' v s v' s' :=
 ⟨fun pl _ _ p cs d hr hst=>by rw[h p cs d hr,stale_dirtAll] at hst;simp at hst,
  fun pl _ _ p cs d hr hst=>by rw[h p cs d hr,staleP_dirtAll] at hst;simp at hst⟩
theorem rowSet_top {p:List Pm} {cs:List T} {path:List (Nat × Nat)} {f:List T→List T} (hp:path≠[]) (e c:Nat) (h:(rowAt p cs [(e,c)]).isSome=true):(rowAt p (rowSet p cs path f) [(e,c)]).isSome=true:=by
 obtain ⟨⟨e1,c1⟩,path,rfl⟩:∃ x y,path=x::y:=by
  cases path with
  | nil=>exact absurd rfl hp
  | cons x y=>exact ⟨x,y,rfl⟩
 simp only[rowSet]
 split
 ·rename_i el1 hc1
  split
  ·rename_i n cs1 hcs1
   simp only[rowAt] at h ⊢
   split at h
   ·rename_i el hc
    rw[List.getElem?_set]
    by_cases hi:ix p.length e1 c1=ix p.length e c
    ·rw[if_pos hi]
     have hlt:ix p.length e1 c1<cs.length:=by
      rcases Nat.lt_or_ge (ix p.length e1 c1) cs.length with h' | h'
      ·exact h'
      ·simp[List.getElem?_eq_none h'] at hcs1
     rw[if_pos hlt];rfl
    ·rw[if_neg hi];exact h
   ·simp at h
  ·exact h
 ·exact h
theorem KeepsLooks.turned {v:Value} {s:Slot} {p cs d p' cs' q m n} (hs:s.root=some (p,cs,d)) (hlen:p'.length=p.length)
  (hq:q≠[]→∀ vs0 base0,RootVals w v s vs0 base0→RootVals w' v (s.withRoot p' cs' ((q,m,n)::d)) vs0 base0)
  (hb:∀ vs0 base0,RootVals w v s vs0 base0→∃ vs1,RootVals w' v (s.withRoot p' cs' ((q,m,n)::d)) vs1 base0)
  (hr0:q≠[]→p'=p∧(∃ W,Ext w w' W)∧∀ e c,(rowAt p cs [(e,c)]).isSome=true→(rowAt p cs' [(e,c)]).isSome=true) :
  KeepsLooks w w' v s v (s.withRoot p' cs' ((q,m,n)::d)):=by
 have hroot:(s.withRoot p' cs' ((q,m,n)::d)).root=some (p',cs',(q,m,n)::d):=by
  cases s <;>simp_all [Slot.root,Slot.withRoot]
 refine ⟨fun pl u hV P CS D hr hst => ?_,fun pl u hV P CS D hr hst => ?_⟩
 ·rw[hroot] at hr
  obtain ⟨rfl,rfl,rfl⟩:p'=P∧cs'=CS∧((q,m,n)::d)=D:=by simpa using hr
  unfold stale at hst
  split at hst
  ·rename_i hpath
   cases q with
   | nil=>simp[dirtyTop] at hst
   | cons x q =>
     simp only[dirtyTop] at hst
     have hst0:stale d pl=false:=by unfold stale;rw[hpath];exact hst
     obtain ⟨vs0,base0,el,rv,base,h1,h2,h3⟩:=hV p cs d hs hst0
     rw[hpath] at h2 ⊢
     simp only[cRow,Option.some.injEq,Prod.mk.injEq] at h2
     obtain ⟨rfl,rfl,rfl⟩:=h2
     exact ⟨vs0,base0,p',vs0,base0,hq (by simp) _ _ h1,rfl,by simpa [pick,hlen] using h3.1,rfl⟩
  ·simp at hst
 ·rw[hroot] at hr
  obtain ⟨rfl,rfl,rfl⟩:p'=P∧cs'=CS∧((q,m,n)::d)=D:=by simpa using hr
  unfold staleP at hst
  split at hst
  ·rename_i hpath
   have hst2:dirtyRoot d=false:=by
    cases q with
    | nil=>simp only[dirtyRoot,Bool.or_eq_false_iff] at hst;exact hst.2
    | cons=>exact hst
   have hst0:staleP d pl=false:=by unfold staleP;rw[hpath];exact hst2
   obtain ⟨vs0,base0,el,rv,b,o,h1,h2,h3⟩:=hV p cs d hs hst0
   rw[hpath] at h2 ⊢
   simp only[cRow,Option.some.injEq,Prod.mk.injEq] at h2
   obtain ⟨rfl,rfl,rfl⟩:=h2
   obtain ⟨vs1,h4⟩:=hb _ _ h1
   exact ⟨vs1,_,p',vs1,b,o,h4,rfl,by rw[hlen];exact h3.1,rfl⟩
  ·rename_i x hpath
   cases q with
   | nil=>simp[dirtyTop] at hst
   | cons y q =>
     simp only[dirtyTop] at hst
     obtain ⟨rfl,⟨W,hx⟩,hT⟩:=hr0 (by simp)
     have hst0:staleP d pl=false:=by unfold staleP;rw[hpath];exact hst
     obtain ⟨vs0,base0,el,rv,b,o,h1,h2,h3⟩:=hV p' cs d hs hst0
     rw[hpath] at h2 ⊢
     have h1' :=hq (by simp) vs0 base0 h1
     obtain ⟨e,c⟩:=x
     simp only[cRow] at h2
     split at h2
     ·rename_i el' hc
      split at h2
      ·rename_i b' off n' cap' hv
       split at h2
       ·rename_i row ety fr hb'
        simp only[Option.some.injEq,Prod.mk.injEq] at h2
        obtain ⟨rfl,rfl,rfl,rfl⟩:=h2
        obtain ⟨row',c1,c2,-⟩:=hx.cells _ _ _ _ hb'
        rw[hpath] at h3
        refine ⟨vs0,base0,el',seg row' off (n' * el'.length),b',off,h1',?_,h3.1,hT e c h3.2⟩
        simp only[cRow,hc,hv,c1]
       ·simp at h2
      ·simp at h2
     ·simp at h2
  ·simp at hst
theorem SlotR.noLt {env:List (Nat × Slot)} {k:Nat} {s:Slot} {f:Fp} (h:SlotR C w Lt g cv env k f s) {x:Fe} (hx:x∈f):∀ j,x.l≤j→¬ Lt x.b j:=by
 cases s with
 | val=>obtain ⟨vs,-,h2,-⟩:=h;exact h2.noLtAbove x hx
 | box=>exact h.1.noLtAbove x hx
 | dead=>simp only[SlotR] at h;subst h;simp at hx
 | gone=>simp only[SlotR] at h;subst h;simp at hx
 | _=>obtain ⟨rfl,-⟩:=h;simp at hx
theorem SlotR.inHeap {env:List (Nat × Slot)} {k:Nat} {s:Slot} {f:Fp} (h:SlotR C w Lt g cv env k f s) {x:Fe} (hx:x∈f) :
  x.b<w.heap.size∧x.lo≤x.hi∧x.hi≤x.t∧¬ C.Fz x.b:=by
 cases s with
 | val=>obtain ⟨vs,-,h2,-⟩:=h;exact h2.lt x hx
 | box=>exact h.1.lt x hx
 | dead=>simp only[SlotR] at h;subst h;simp at hx
 | gone=>simp only[SlotR] at h;subst h;simp at hx
 | _=>obtain ⟨rfl,-⟩:=h;simp at hx
theorem SlotR.mono {W:Nat→Nat→Prop} {env env':List (Nat × Slot)} {k:Nat} {s:Slot} {f:Fp} (h:SlotR C w Lt g cv env k f s) (hx:Ext w w' W)
  (hcv:cv' k=cv k) (hvs:∀ n,s = .tup n→n≤16→∀ i,i<n→cv' (vslot k i)=cv (vslot k i))
  (hR:∀ ps ts vs,R w C.Fz Lt g ps ts vs f→R w' C.Fz Lt' g' ps ts vs f)
  (hpin:∀ p cs d pin,s = .box p cs d pin→∀ x∈f,∀ j,x.lo≤j→j<x.hi→¬ W x.b j)
  (hl:∀ k'∈s.looks,KeepsLooks w w' (cv k') (get env k') (cv' k') (get env' k')):SlotR C w' Lt' g' cv' env' k f s:=by
 cases s with
 | dead=>exact h
 | gone=>exact h
 | und=>exact ⟨h.1,hcv.trans h.2⟩
 | val ag p cs d pin =>
   obtain ⟨vs,h1,h2,h3⟩:=h
   exact ⟨vs,by rw[hcv];exact h1,hR _ _ _ h2,h3⟩
 | tup n =>
   obtain ⟨h1,vs,h2,h3,h16,h4⟩:=h
   exact ⟨h1,vs,hcv.trans h2,h3,h16,fun i hi=>by rw[hvs n rfl h16 i hi];exact h4 i hi⟩
 | box p cs d pin =>
   obtain ⟨h1,h2⟩:=h
   refine ⟨by rw[hcv];exact hR _ _ _ h1,fun hp => ?_⟩
   obtain ⟨b,off,row,e,fr,c1,c2,c3⟩:=h2 hp
   obtain ⟨row1,d1,d2,d3⟩:=hx.cells b row e fr c2
   refine ⟨b,off,row1,e,fr,hcv.trans c1,d1,?_⟩
   rw[← c3]
   refine seg_congr fun j a' b'=>d3 j ?_
   generalize hv:cv k=v at h1
   cases h1 with
   | @rfO b1 off1 row1' e1 fr1 _ _ vs' _ _ _ f1 f2 h0 hb hz hl hs hsz hf hi r =>
     rw[c1] at hv
     obtain ⟨rfl,rfl⟩:b=b1∧off=off1:=by simpa using hv
     exact hpin p cs d pin rfl _ (List.mem_cons_self ..) j a' b'
 | view k' pl=>exact ⟨h.1,by rw[hcv];exact (hl k' (by simp[Slot.looks])).1 _ _ h.2⟩
 | ptr k' pl=>exact ⟨h.1,by rw[hcv];exact (hl k' (by simp[Slot.looks])).2 _ _ h.2⟩
 | clo fn caps =>
   obtain ⟨h1,vs,h2,h3⟩:=h
   refine ⟨h1,vs,hcv.trans h2,?_⟩
   have:∀ (caps:List (Nat × Place)) (vs:List Value),(∀ c∈caps,KeepsLooks w w' (cv c.1) (get env c.1) (cv' c.1) (get env' c.1)) →
     CapsR w cv env caps vs→CapsR w' cv' env' caps vs:=by
    intro caps
    induction caps with
    | nil=>intro vs _ h;cases vs <;>simp_all [CapsR]
    | cons c caps ih =>
      intro vs hk h
      cases vs with
      | nil=>simp[CapsR] at h
      | cons v vs=>exact ⟨(hk c (by simp)).2 _ _ h.1,ih vs (fun c' hc'=>hk c' (by simp[hc'])) h.2⟩
   exact this caps vs (fun c hc=>hl c.1 (by simp[Slot.looks];exact ⟨c.2,hc⟩)) h3
end
end Go.Desk
end
section
namespace Go.Desk
open Go
theorem get_cons (j k:Nat) (s:Slot) (r:List (Nat × Slot)):get ((j,s)::r) k=if j=k then s else get r k:=rfl
def upd (ups:List (Nat × Slot)) (k:Nat):Option Slot :=
 match ups with
 | []=>none
 | (j,s)::r=>match upd r k with
   | some s'=>some s'
   | none=>if j=k then some s else none
theorem get_puts (ups env:List (Nat × Slot)) (k:Nat):get (puts ups env) k=(upd ups k).getD (get env k):=by
 induction ups generalizing env with
 | nil=>rfl
 | cons u us ih =>
   obtain ⟨j,s⟩:=u
   simp only[puts,upd]
   rw[ih]
   cases upd us k with
   | some s'=>rfl
   | none =>
     simp only[Option.getD_none,get_cons]
     split <;>rfl
theorem upd_none {ups:List (Nat × Slot)} {k:Nat} (h:k ∉ ups.map (·.1)):upd ups k=none:=by
 induction ups with
 | nil=>rfl
 | cons u us ih =>
   obtain ⟨j,s⟩:=u
   simp only[List.map_cons,List.mem_cons,not_or] at h
   simp only[upd,ih h.2]
   rw[if_neg (fun e=>h.1 e.symm)]
section
variable {C:Ctx} {w w':World} {a a':Act} {σ:AS} {Lt Lt':Nat→Nat→Prop} {cv cv':Nat→Value} {fp fp':Nat→Fp} {g':Nat} {env':List (Nat × Slot)}
theorem StW.step {W:Nat→Nat→Prop} (h:StW C w a σ Lt cv fp) (hx:Ext w w' W)
  (hW:∀ b j,b<w.heap.size→W b j→C.w0.heap.size≤b∨C.Mut b j)
  (hg:(g'=σ.g∧(∀ b j,Lt b j→Lt' b j)∧(∀ b j,Lt b j→¬ W b j))∨(σ.g<g'∧Lt'=fun _ _=>False))
  (htm:∀ k,k<1000000→cv' k=a'.tmps.getD k undef) (hsz:a'.tmps.size≤1000000)
  (hk:∀ k,(get env' k=get σ.env k∧fp' k=fp k∧cv' k=cv k∧(∀ n,get σ.env k = .tup n→n≤16→∀ i,i<n→cv' (vslot k i)=cv (vslot k i)) ∧
     (∀ x∈fp k,(∀ j,x.lo≤j→j<x.hi→¬ W x.b j)∧∀ j,x.l≤j→¬ Lt' x.b j) ∧
     (∀ k'∈(get σ.env k).looks,KeepsLooks w w' (cv k') (get σ.env k') (cv' k') (get env' k')∧seenOk (get env' k'))) ∨
    (SlotR C w' Lt' g' cv' env' k (fp' k) (get env' k)∧((fp' k).map Fe.b).Nodup ∧
      (∀ f∈fp' k,C.Ok f)∧(∀ k'∈(get env' k).looks,k'<1000000∧seenOk (get env' k'))))
  (hd:∀ j k,j≠k→∀ x∈fp' j,∀ y∈fp' k,x.b≠y.b)
  (hlt:∀ b j,Lt' b j→b<w'.heap.size):StW C w' a' ⟨env',g'⟩ Lt' cv' fp' :=by
 have wFz:∀ b j,C.Fz b→¬ W b j:=by
  intro b j hb hWb
  obtain ⟨hlt',hm⟩:=h.fz b hb
  have:=h.ext.size
  rcases hW b j (by omega) hWb with h1 | h1
  ·omega
  ·obtain ⟨y,hy,e,-⟩:=h1
   exact hm y hy e
 refine ⟨htm,fun k => ?_,fun k => ?_,hd,fun k => ?_,hlt,fun j k hkl => ?_,h.fz,?_,hsz⟩
 ·rcases hk k with ⟨h1,h2,h3,h4,h5,h6⟩ | ⟨h1,-⟩
  ·simp only[h1]
   rw[h2]
   refine (h.slots k).mono (W:=W) hx h3 h4 (fun ps ts vs hR => ?_) (fun _ _ _ _ _ x hx'=>(h5 x hx').1) (fun k' hk'=>(h6 k' hk').1)
   rcases hg with ⟨rfl,hg1,hg2⟩ | ⟨hg1,rfl⟩
   ·exact hR.mono hx (fun _ h=>h) hg1 wFz hg2 (fun x hx'=>⟨(h5 x hx').1,(hR.lt x hx').2.2.2,(h5 x hx').2⟩)
   ·exact (hR.bump hg1).mono hx (fun _ h=>h) (fun _ _ h=>h) wFz (by simp) (fun x hx'=>⟨(h5 x hx').1,(hR.lt x hx').2.2.2,by simp⟩)
  ·exact h1
 ·rcases hk k with ⟨h1,h2,-⟩ | ⟨-,h1,-⟩
  ·rw[h2];exact h.nodup k
  ·exact h1
 ·rcases hk k with ⟨h1,h2,-⟩ | ⟨-,-,h1,-⟩
  ·rw[h2];exact h.wok k
  ·exact h1
 ·simp only at hkl
  rcases hk j with ⟨h1,-,-,-,-,h6⟩ | ⟨-,-,-,h1⟩
  ·rw[h1] at hkl
   exact ⟨(h.looks j k hkl).1,(h6 k hkl).2⟩
  ·exact h1 k hkl
 ·exact h.ext.trans hx (fun _ _ h=>h) (fun b j hb hWb=>by
   have hs:=h.ext.size
   rcases hW b j (by omega) hWb with h1 | h1
   ·omega
   ·exact h1)
theorem eval_tmp (h:StW C w a σ Lt cv fp) {t:Nat} (ht:t<1000000):a.eval (.tmp t)=cv t:=(h.tmps t ht).symm
theorem freshOk_not_seen {s:Slot} (h:freshOk s=true):¬ seenOk s:=by
 unfold freshOk at h
 split at h
 ·simp[seenOk]
 ·simp[seenOk,h]
 ·simp at h
theorem put_getD (a:Act) (d k:Nat) (v:Value) (hd:d<a.tmps.size):(a.put (some d) v).tmps.getD k undef=if k=d then v else a.tmps.getD k undef:=by
 simp only[Act.put,Array.getD_eq_getD_getElem?]
 by_cases h:k=d
 ·subst h;simp[hd]
 ·rw[if_neg h,Array.getElem?_setIfInBounds_ne (fun e=>h e.symm)]
theorem put_size (a:Act) (d:Option Nat) (v:Value):(a.put d v).tmps.size=a.tmps.size:=by
 cases d <;>simp[Act.put]
theorem StW.put1 (h:StW C w a σ Lt cv fp) (hx:Ext w w' (fun _ _=>False)) {d:Nat} {v:Value} {s:Slot} (hd:d<a.tmps.size)
  (hs:SlotR C w' Lt σ.g (fun k=>if k=d then v else cv k) ((d,s)::σ.env) d [] s)
  (hf:s.root=none∨freshOk (get σ.env d)=true) (hl:∀ k∈s.looks,k<1000000∧k≠d∧seenOk (get σ.env k))
  (hso:seenOk s∨freshOk (get σ.env d)=true) :
  ∃ cv' fp',StW C w' (a.put (some d) v) ⟨(d,s)::σ.env,σ.g⟩ Lt cv' fp' :=by
 have hds:=h.size
 refine ⟨fun k=>if k=d then v else cv k,fun k=>if k=d then [] else fp k,h.step (W:=fun _ _=>False) hx (by simp) (.inl ⟨rfl,fun _ _ h=>h,by simp⟩) (fun k hk => ?_) (by rw[put_size];exact h.size) (fun k => ?_) ?_ ?_⟩
 ·rw[put_getD a d k v hd,← h.tmps k hk]
 ·by_cases hkd:k=d
  ·subst hkd
   right
   simp only[get_cons,if_true]
   refine ⟨hs,by simp,by simp,fun k' hk' => ?_⟩
   obtain ⟨h1,h2,h3⟩:=hl k' hk'
   exact ⟨h1,by rw[if_neg (fun e=>h2 e.symm)];exact h3⟩
  ·left
   simp only[get_cons,if_neg hkd,if_neg (fun e=>hkd e.symm:¬ d=k)]
   refine ⟨trivial,trivial,trivial,fun n hn _ i _ => ?_,fun x hx'=>⟨by simp,(h.slots k).noLt hx'⟩,fun k' hk' => ?_⟩
   ·rw[if_neg];unfold vslot;omega
   ·obtain ⟨h1,h2⟩:=h.looks k k' hk'
    by_cases hk'd:k'=d
    ·subst hk'd
     simp only[if_true]
     rcases hf with hf | hf
     ·refine ⟨KeepsLooks.noRoot hf,?_⟩
      rcases hso with h | h
      ·exact h
      ·exact absurd h2 (freshOk_not_seen h)
     ·exact absurd h2 (freshOk_not_seen hf)
    ·simp only[if_neg hk'd,if_neg (fun e=>hk'd e.symm:¬ d=k')]
     exact ⟨KeepsLooks.same (h.slots k') hx (by simp),h2⟩
 ·intro j k hjk x hx' y hy'
  by_cases hj:j=d
  ·simp[hj] at hx'
  ·by_cases hk:k=d
   ·simp[hk] at hy'
   ·rw[if_neg hj] at hx'
    rw[if_neg hk] at hy'
    exact h.disj j k hjk x hx' y hy'
 ·intro b j hb
  have:=h.lt b j hb
  have:=hx.size
  omega
end
end Go.Desk
end
section
namespace Go.Desk
open Go
section
variable {P:Program} {w:World}
theorem addr_add (b off n:Nat):(⟨b,off,none⟩:Addr).add n=⟨b,off+n,none⟩:=Addr.add_lit b off n
theorem cell_at {b off:Nat} {row:Array Value} {e:TypeId} {fr:Nat × Nat} (hb:w.heap[b]?=some (.cells row e fr)):w.cell? ⟨b,off,none⟩=row[off]? :=by
 simp[World.cell?,hb]
theorem frozen_at {b off:Nat} {row:Array Value} {e:TypeId} {fr:Nat × Nat} (hb:w.heap[b]?=some (.cells row e fr)):w.frozen? ⟨b,off,none⟩=(decide (fr.1≤off)&&decide (off<fr.2)):=by
 obtain ⟨lo,hi⟩:=fr
 simp[World.frozen?,hb]
theorem seg_succ {row:Array Value} {off n:Nat} (h:off<row.size):seg row off (n+1)=row[off]::seg row (off+1) n:=by
 simp only[seg]
 rw[List.drop_eq_getElem_cons (by simpa using h),List.take_succ_cons]
 simp
theorem run_loadCellsFrom {b off:Nat} {row:Array Value} {e:TypeId} {fr:Nat × Nat} (hb:w.heap[b]?=some (.cells row e fr)):∀ n i acc,off+i+n≤row.size →
  (loadCellsFrom ⟨b,off,none⟩ i n acc).run P w = .ok (acc++(seg row (off+i) n).toArray) w:=by
 intro n
 induction n with
 | zero=>intro i acc _;simp[loadCellsFrom,seg]
 | succ n ih =>
   intro i acc h
   have hlt:off+i<row.size:=by omega
   simp only[loadCellsFrom,Sem.run_bind,run_load,addr_add,cell_at hb,Array.getElem?_eq_getElem hlt,Result.andThen_ok]
   rw[ih (i+1) _ (by omega),seg_succ hlt]
   simp[Nat.add_assoc]
theorem run_loadCells {b off n:Nat} {row:Array Value} {e:TypeId} {fr:Nat × Nat} (hb:w.heap[b]?=some (.cells row e fr)) (h:off+n≤row.size) :
  (loadCells ⟨b,off,none⟩ n).run P w = .ok (seg row off n).toArray w:=by
 unfold loadCells
 rw[run_loadCellsFrom hb n 0 #[] (by omega)]
 simp
def wset (w:World) (b:Nat):Nat→List Value→World
 | _,[]=>w
 | off,v::vs=>wset (w.setCell ⟨b,off,none⟩ v) b (off+1) vs
theorem setCell_heap {b off:Nat} {row:Array Value} {e:TypeId} {fr:Nat × Nat} (hb:w.heap[b]?=some (.cells row e fr)) (v:Value) :
  (w.setCell ⟨b,off,none⟩ v).heap[b]?=some (.cells (row.setIfInBounds off v) e fr):=by
 simp only[World.setCell,Array.getElem?_modify]
 rw[if_pos trivial,hb];rfl
theorem wset_heap:∀ (vs:List Value) (w:World) (b off:Nat) (row:Array Value) (e:TypeId) (fr:Nat × Nat),w.heap[b]?=some (.cells row e fr)→off+vs.length≤row.size →
  ∃ row',(wset w b off vs).heap[b]?=some (.cells row' e fr)∧row'.size=row.size∧seg row' off vs.length=vs∧∀ j,¬ (off≤j∧j<off+vs.length)→row'[j]?=row[j]?
 | [],w,b,off,row,e,fr,hb,_=>⟨row,hb,rfl,by simp[seg],fun _ _=>rfl⟩
 | v::vs,w,b,off,row,e,fr,hb,h=>by
   simp only[List.length_cons] at h ⊢
   obtain ⟨row',h1,h2,h3,h4⟩:=wset_heap vs _ b (off+1) _ e fr (setCell_heap (off:=off) hb v) (by simp;omega)
   refine ⟨row',h1,by simpa using h2,?_,fun j hj => ?_⟩
   ·have hlt:off<row'.size:=by simp at h2;omega
    rw[seg_succ hlt,h3]
    have h5:=h4 off (by omega)
    have:row'[off]?=some v:=by
     rw[h5]
     have:off<row.size:=by omega
     simp[this]
    rw[Array.getElem?_eq_getElem hlt] at this
    simp only[Option.some.injEq] at this
    rw[this]
   ·rw[h4 j (by omega),Array.getElem?_setIfInBounds_ne (by omega)]
theorem wset_ext:∀ (vs:List Value) (w:World) (b off:Nat),Ext w (wset w b off vs) (fun b' j=>b'=b∧off≤j∧j<off+vs.length)
 | [],w,b,off=>Ext.refl w _
 | v::vs,w,b,off=>by
   have h1:=Ext.setCell w ⟨b,off,none⟩ v
   have h2:=wset_ext vs (w.setCell ⟨b,off,none⟩ v) b (off+1)
   refine h1.trans h2 (fun b' j hj => ?_) (fun b' j _ hj => ?_)
   ·simp only[List.length_cons] at hj ⊢;exact ⟨hj.1,by omega,by omega⟩
   ·simp only[List.length_cons];exact ⟨hj.1,by omega,by omega⟩
theorem run_storeCells:∀ (vs:List Value) (w:World) (b off i:Nat) (row:Array Value) (e:TypeId) (fr:Nat × Nat),w.heap[b]?=some (.cells row e fr)→off+i+vs.length≤row.size →
  (∀ j,off+i≤j→j<off+i+vs.length→¬ (fr.1≤j∧j<fr.2))→(∀ v∈vs,v.oneCell'=true) →
  (storeCells ⟨b,off,none⟩ vs i).run P w = .ok () (wset w b (off+i) vs)
 | [],w,b,off,i,row,e,fr,_,_,_,_=>by simp[storeCells,wset]
 | v::vs,w,b,off,i,row,e,fr,hb,h,hf,hv=>by
   simp only[List.length_cons] at h hf
   have hlt:off+i<row.size:=by omega
   have hfr:w.frozen? ⟨b,off+i,none⟩=false:=by
    rw[frozen_at hb]
    have:=hf (off+i) (Nat.le_refl _) (by omega)
    simp only[Bool.and_eq_false_iff,decide_eq_false_iff_not]
    omega
   simp only[storeCells,Sem.run_bind,addr_add]
   rw[run_store P w _ v _ (hv v (by simp)),cell_at hb,Array.getElem?_eq_getElem hlt]
   simp only[hfr]
   have:=run_storeCells vs (w.setCell ⟨b,off+i,none⟩ v) b off (i+1) _ e fr (setCell_heap (off:=off+i) hb v) (by simp;omega) (fun j a c=>hf j (by omega) (by omega)) (fun u hu=>hv u (by simp[hu]))
   simpa [wset,Nat.add_assoc] using this
end
end Go.Desk
end
section
namespace Go.Desk
open Go
def aggDesc:TypeDesc→Bool
 | .struct _=>true
 | .array _ _=>true
 | _=>false
def KdOk (E:Env) (d:TD) (u:TypeDesc):Prop:=match d.kd with
 | .int k=>u = .int k
 | .flt k=>u = .float k
 | .bool=>u = .bool
 | .str=>u = .string
 | .slc e=>u = .slice e∧∃ de,E.ty e=some de∧d.own=[.sl .own de.own]
 | .ptr e=>u = .pointer e
 | .st fs=>∃ fields:Array Field,u = .struct fields∧fields.toList.map (fun f=>(f.offset,f.type))=fs
 | .other=>True
structure TyOk (P:Program) (E:Env) (t:Nat) (d:TD):Prop where
 info:∃ i z,P.info? t=some i∧i.size=d.sz∧i.bytes=d.bytes∧i.zero=some z∧constTs z.cells.toList=some d.zero ∧
  (if d.agg then ∃ cs,z = .agg cs else z.cells = #[z])
 fit:fitTs d.own d.zero=true
 len:d.own.length=d.sz
 pos:0<d.sz
 und:∃ u,P.underlying t=some u∧KdOk E d u∧aggDesc u=d.agg
 flds:∀ fields:Array Field,P.underlying t=some (.struct fields)→∀ f∈fields.toList,(P.info? f.type).isSome=true
def TysOk (P:Program) (E:Env):Prop:=∀ t d,E.ty t=some d→TyOk P E t d
def opndOk:Operand→Prop
 | .tmp t=>t<1000000
 | _=>True
theorem constTs_fit {w:World} {Fz:Nat→Prop} {Lt:Nat→Nat→Prop} {g:Nat}:∀ {ps:List Pm} {ts:List T} {vs:List Value},constTs vs=some ts→fitTs ps ts=true→R w Fz Lt g ps ts vs []
 | ps,ts,[],h,hf=>by
   simp only[constTs,Option.some.injEq] at h
   subst h
   cases ps with
   | nil=>exact .nil
   | cons p ps=>cases p <;>(try (rename_i fl el;cases fl)) <;>simp[fitTs] at hf
 | ps,ts,v::vs,h,hf=>by
   simp only[constTs] at h
   cases hc:constT v with
   | none=>simp[hc] at h
   | some t =>
     cases hr:constTs vs with
     | none=>simp[hc,hr] at h
     | some ts' =>
       simp only[hc,hr,Option.some.injEq] at h
       subst h
       cases ps with
       | nil=>simp[fitTs] at hf
       | cons p ps =>
         cases p with
         | leaf =>
           simp only[fitTs,Bool.and_eq_true] at hf
           refine .leaf (LeafRel.constT hc ?_) (constTs_fit hr hf.2)
           rintro n cs rfl
           simp at hf
         | sl fl el =>
           cases fl with
           | own =>
             unfold fitTs at hf
             split at hf <;>simp_all
             rename_i heq _
             obtain ⟨rfl,rfl⟩:=heq
             unfold constT at hc
             split at hc <;>simp at hc
             exact .slE (by simp) (constTs_fit hr hf)
           | _=>simp[fitTs] at hf
         | _=>simp[fitTs] at hf
section
variable {C:Ctx} {w w':World} {a a':Act} {σ:AS} {Lt Lt':Nat→Nat→Prop} {cv cv':Nat→Value} {fp fp':Nat→Fp}
theorem constV_sound {Fz:Nat→Prop} {E:Env} {ty:Nat} {c:Value} {v:V} {g:Nat} (h:constV E ty c=some v):∃ vs,CellsOf v.agg c vs∧R w Fz Lt g v.p v.cs vs []:=by
 unfold constV at h
 split at h
 ·rename_i vs
  split at h
  ·simp at h
  split at h
  ·simp at h
  rename_i ts hts
  split at h
  ·rename_i hf
   simp only[Option.some.injEq] at h
   subst h
   exact ⟨vs.toList,by simp[CellsOf],constTs_fit hts hf⟩
  ·simp at h
 ·rename_i hna
  split at h
  ·simp at h
  ·rename_i n cs hc
   split at h
   ·split at h
    ·simp only[Option.some.injEq] at h
     subst h
     refine ⟨[c],by simp[CellsOf],?_⟩
     unfold constT at hc
     split at hc <;>simp at hc
     obtain ⟨rfl,rfl⟩:=hc
     exact .slE (by simp) .nil
    ·simp at h
   ·simp at h
  ·rename_i t hnl hc
   simp only[Option.some.injEq] at h
   subst h
   exact ⟨[c],by simp[CellsOf],.leaf (LeafRel.constT hc fun n cs e=>hnl n cs e) .nil⟩
theorem resolve1_tmp (env:List (Nat × Slot)) (t:Nat):resolve1 env (.tmp t)=match get env t with
  | .view k pl => .slot t (.view k pl) (get env k)
  | .ptr k pl => .slot t (.ptr k pl) (get env k)
  | .clo f caps => .clo t f (caps.map fun c=>(c.1,c.2,get env c.1))
  | .tup n => .tup t ((upto n).map fun i=>get env (vslot t i))
  | s => .slot t s .dead:=by
 first | (simp only[resolve1];done) | (simp only[resolve1];cases get env t <;>rfl)
theorem readV_sound (h:StW C w a σ Lt cv fp) {x:Operand} {ty:Nat} {v:V} (hx:opndOk x) (hr:readV C.E ty (resolve1 σ.env x)=some v) :
  ∃ vs f,CellsOf v.agg (a.eval x) vs∧R w C.Fz Lt σ.g v.p v.cs vs f∧(f=[]∨∃ k,∀ y∈f,y∈fp k):=by
 cases x with
 | const c =>
   simp only[resolve1,readV] at hr
   obtain ⟨vs,h1,h2⟩:=constV_sound (w:=w) (Lt:=Lt) (Fz:=C.Fz) (g:=σ.g) hr
   exact ⟨vs,[],h1,h2,.inl rfl⟩
 | global g=>simp[resolve1,readV] at hr
 | func f =>
   simp only[resolve1,readV,Option.some.injEq] at hr
   subst hr
   exact ⟨[_],[],by simp[CellsOf,Act.eval],.fnv (caps:=[]) .nil .nil,.inl rfl⟩
 | tmp t =>
   rw[eval_tmp h hx]
   rw[resolve1_tmp] at hr
   have hs:=h.slots t
   cases hg:get σ.env t with
   | val ag p cs d pin =>
     rw[hg] at hs
     simp only[hg,readV,Option.some.injEq] at hr
     subst hr
     obtain ⟨vs,h1,h2,-⟩:=hs
     exact ⟨vs,fp t,h1,h2,.inr ⟨t,fun _ h=>h⟩⟩
   | view k pl =>
     rw[hg] at hs
     simp only[hg,readV] at hr
     cases hroot:(get σ.env k).root with
     | none=>simp[hroot] at hr
     | some pcd =>
       obtain ⟨p,cs,d⟩:=pcd
       simp only[hroot] at hr
       split at hr
       ·simp at hr
       ·rename_i hst
        obtain ⟨vs0,base0,el,rv,base,k1,k2,k3⟩:=hs.2 p cs d hroot (by simpa using hst)
        obtain ⟨vs1,base1,j1,j2⟩:=(h.slots k).atPlace (h.nodup k) hroot hr
        obtain ⟨rfl,rfl⟩:=k1.uniq j1
        obtain ⟨f',hf',hR⟩:=j2 el rv base k2
        refine ⟨_,f',?_,hR,.inr ⟨k,hf'⟩⟩
        have:v.agg=pl.agg:=by
         unfold Desk.atPlace at hr
         split at hr <;>try simp at hr
         split at hr <;>try simp at hr
         split at hr <;>simp at hr
         rw[← hr]
        rw[this];exact k3.1
   | _=>simp[hg,readV] at hr
theorem readLeaf_sound (h:StW C w a σ Lt cv fp) {x:Operand} {ty:Nat} {t:T} (hx:opndOk x) (hr:readLeaf C.E ty (resolve1 σ.env x)=some t) :
  LeafRel t (a.eval x):=by
 unfold readLeaf at hr
 split at hr <;>simp at hr
 rename_i t' hv
 subst hr
 obtain ⟨vs,f,h1,h2,-⟩:=readV_sound h hx hv
 simp only[CellsOf,Bool.false_eq_true,if_false] at h1
 subst h1
 cases h2 with
 | leaf h _=>exact h
theorem ptrOf_soundT (h:StW C w a σ Lt cv fp) {x:Operand} {k:Nat} {pl:Place} {root:Slot} (hx:opndOk x) (hr:ptrOf (resolve1 σ.env x)=some (k,pl,root)) :
  root=get σ.env k∧k<1000000∧∃ p cs d,root.root=some (p,cs,d)∧((∃ ag p' c' d' pin,root = .val ag p' c' d' pin)→seenOk root) ∧
   ∃ vs0 base0 el rv b o,RootVals w (cv k) root vs0 base0∧cRow w p vs0 base0 pl.path=some (el,rv,some (b,o)) ∧
    a.eval x = .pointer (some ⟨b,o+ix el.length pl.e pl.c,none⟩)∧(rowAt p cs pl.path).isSome=true:=by
 cases x with
 | const c=>simp[resolve1,ptrOf] at hr
 | global g=>simp[resolve1,ptrOf] at hr
 | func f=>simp[resolve1,ptrOf] at hr
 | tmp t =>
   rw[eval_tmp h hx]
   rw[resolve1_tmp] at hr
   have hs:=h.slots t
   cases hg:get σ.env t with
   | ptr k' pl' =>
     rw[hg] at hs
     simp only[hg,ptrOf] at hr
     cases hroot:(get σ.env k').root with
     | none=>simp[hroot] at hr
     | some pcd =>
       obtain ⟨p,cs,d⟩:=pcd
       simp only[hroot] at hr
       split at hr
       ·simp at hr
       ·rename_i hst
        simp only[Option.some.injEq,Prod.mk.injEq] at hr
        obtain ⟨rfl,rfl,rfl⟩:=hr
        have hl:=h.looks t k' (by rw[hg];simp[Slot.looks])
        exact ⟨rfl,hl.1,p,cs,d,hroot,fun _=>hl.2,hs.2 p cs d hroot (by simpa using hst)⟩
   | box p cs d pin =>
     simp only[hg,ptrOf,Option.some.injEq,Prod.mk.injEq] at hr
     obtain ⟨rfl,rfl,rfl⟩:=hr
     rw[hg] at hs
     refine ⟨hg.symm,hx,p,cs,d,rfl,by simp,?_⟩
     obtain ⟨vs0,base0,fI,hrv,-,-,hk⟩:=hs.rootR (p:=p) (cs:=cs) (d:=d) rfl
     rcases hk with ⟨_,_,h1,_⟩ | ⟨pin',b,off,row,e,fr,-,rfl,hcv,-⟩
     ·simp at h1
     ·refine ⟨vs0,_,p,vs0,b,off,hrv,rfl,?_⟩
      rw[hcv]
      have:ix p.length 0 0=0:=by unfold ix;split <;>simp
      simp[whole,this,rowAt]
   | _=>simp[hg,ptrOf] at hr
theorem ptrOf_sound (h:StW C w a σ Lt cv fp) {x:Operand} {k:Nat} {pl:Place} {root:Slot} (hx:opndOk x) (hr:ptrOf (resolve1 σ.env x)=some (k,pl,root)) :
  root=get σ.env k∧k<1000000∧∃ p cs d,root.root=some (p,cs,d)∧((∃ ag p' c' d' pin,root = .val ag p' c' d' pin)→seenOk root) ∧
   ∃ vs0 base0 el rv b o,RootVals w (cv k) root vs0 base0∧cRow w p vs0 base0 pl.path=some (el,rv,some (b,o)) ∧
    a.eval x = .pointer (some ⟨b,o+ix el.length pl.e pl.c,none⟩):=by
 obtain ⟨h1,h2,p,cs,d,h3,h4,vs0,base0,el,rv,b,o,h5,h6,h7,-⟩:=ptrOf_soundT h hx hr
 exact ⟨h1,h2,p,cs,d,h3,h4,vs0,base0,el,rv,b,o,h5,h6,h7⟩
end
end Go.Desk
end
section
namespace Go.Desk
open Go
theorem infRung_single:Ieee.single.infRung=2139095040:=rfl
theorem infRung_double:Ieee.double.infRung=9218868437227405312:=rfl
theorem weight_single:Ieee.single.signWeight=2147483648:=rfl
theorem weight_double:Ieee.double.signWeight=9223372036854775808:=rfl
theorem read_isNaN (f:Ieee.Format) (b:Nat) (h:f.binade≤f.infRung):(f.read b).isNaN=decide (f.infRung<b % f.signWeight):=by
 simp only[Ieee.Format.read]
 split
 ·simp only[Ieee.Datum.isNaN];symm;simp;omega
 ·split
  ·simp only[Ieee.Datum.isNaN];symm;simp;omega
  ·split
   ·simp only[Ieee.Datum.isNaN];symm;simp;omega
   ·simp only[Ieee.Datum.isNaN];symm;simp;omega
theorem isNaN_f32 (b:Nat):isNaN .f32 b=decide (2139095040<b % 2147483648):=by
 unfold isNaN FloatKind.decode
 exact read_isNaN Ieee.single b (by decide)
theorem isNaN_f64 (b:Nat):isNaN .f64 b=decide (9218868437227405312<b % 9223372036854775808):=by
 unfold isNaN FloatKind.decode
 exact read_isNaN Ieee.double b (by decide)
theorem isNaN_qnan (k:FloatKind):isNaN k (qnan k)=true:=by cases k <;>simp[isNaN_f32,isNaN_f64,qnan]
theorem canon_idem (k:FloatKind) (b:Nat):canon k (canon k b)=canon k b:=by
 unfold canon
 by_cases h:isNaN k b=true
 ·simp[h,isNaN_qnan]
 ·simp[h]
theorem canon_nan {k:FloatKind} {b:Nat} (h:isNaN k b=true):canon k b=qnan k:=by simp[canon,h]
theorem canon_num {k:FloatKind} {b:Nat} (h:isNaN k b=false):canon k b=b:=by simp[canon,h]
theorem isNaN_canon (k:FloatKind) (b:Nat):isNaN k (canon k b)=isNaN k b:=by
 unfold canon
 by_cases h:isNaN k b=true
 ·simp[h,isNaN_qnan]
 ·simp[h]
theorem nan_read {k:FloatKind} {b:Nat} (h:isNaN k b=true):∃ s t,k.format.read b = .nan s t:=by
 unfold isNaN FloatKind.decode Ieee.Datum.isNaN at h
 split at h
 ·exact ⟨_,_,by assumption⟩
 ·simp at h
theorem canon2 {α:Type} (k:FloatKind) (F:Ieee.Datum→Ieee.Datum→Option α) (h1:∀ s t d,F (.nan s t) d=none) (h2:∀ s t d,F d (.nan s t)=none) (x y:Nat) :
  F (k.format.read (canon k x)) (k.format.read (canon k y))=F (k.format.read x) (k.format.read y):=by
 by_cases hx:isNaN k x=true
 ·obtain ⟨s,t,e⟩:=nan_read hx
  obtain ⟨s',t',e'⟩:=nan_read (isNaN_qnan k)
  rw[canon_nan hx,e,e',h1,h1]
 ·rw[canon_num (by simpa using hx)]
  by_cases hy:isNaN k y=true
  ·obtain ⟨s,t,e⟩:=nan_read hy
   obtain ⟨s',t',e'⟩:=nan_read (isNaN_qnan k)
   rw[canon_nan hy,e,e',h2,h2]
  ·rw[canon_num (by simpa using hy)]
theorem sum_nan1 (s:Bool) (t:Nat) (d:Ieee.Datum):Ieee.Datum.sum (.nan s t) d=none:=by cases d <;>rfl
theorem sum_nan2 (s:Bool) (t:Nat) (d:Ieee.Datum):Ieee.Datum.sum d (.nan s t)=none:=by cases d <;>rfl
theorem product_nan1 (s:Bool) (t:Nat) (d:Ieee.Datum):Ieee.Datum.product (.nan s t) d=none:=by cases d <;>rfl
theorem product_nan2 (s:Bool) (t:Nat) (d:Ieee.Datum):Ieee.Datum.product d (.nan s t)=none:=by cases d <;>rfl
theorem quotient_nan1 (n:Nat) (s:Bool) (t:Nat) (d:Ieee.Datum):Ieee.Datum.quotient n (.nan s t) d=none:=by cases d <;>rfl
theorem quotient_nan2 (n:Nat) (s:Bool) (t:Nat) (d:Ieee.Datum):Ieee.Datum.quotient n d (.nan s t)=none:=by cases d <;>rfl
theorem order_nan1 (s:Bool) (t:Nat) (d:Ieee.Datum):Ieee.Datum.order (.nan s t) d=none:=by cases d <;>rfl
theorem order_nan2 (s:Bool) (t:Nat) (d:Ieee.Datum):Ieee.Datum.order d (.nan s t)=none:=by cases d <;>rfl
theorem add_canon (k:FloatKind) (x y:Nat):k.format.add (canon k x) (canon k y)=k.format.add x y :=
 congrArg (Option.map k.format.write) (canon2 k Ieee.Datum.sum sum_nan1 sum_nan2 x y)
theorem sub_canon (k:FloatKind) (x y:Nat):k.format.sub (canon k x) (canon k y)=k.format.sub x y :=
 congrArg (Option.map k.format.write) (canon2 k (fun a b=>a.sum b.opposite) (fun s t d=>sum_nan1 _ _ _) (fun s t d=>sum_nan2 _ _ _) x y)
theorem mul_canon (k:FloatKind) (x y:Nat):k.format.mul (canon k x) (canon k y)=k.format.mul x y :=
 congrArg (Option.map k.format.write) (canon2 k Ieee.Datum.product product_nan1 product_nan2 x y)
theorem div_canon (k:FloatKind) (x y:Nat):k.format.div (canon k x) (canon k y)=k.format.div x y :=
 congrArg (Option.map k.format.write) (canon2 k (Ieee.Datum.quotient (k.format.fractionBits+2)) (quotient_nan1 _) (quotient_nan2 _) x y)
theorem order_canon (k:FloatKind) (x y:Nat):k.format.order (canon k x) (canon k y)=k.format.order x y :=
 canon2 k Ieee.Datum.order order_nan1 order_nan2 x y
theorem nearest_le (f:Ieee.Format) (s:Bool) (m:Nat) (e:Int) (h:f.infRung<f.signWeight):∃ r,f.nearest s m e=f.word s r∧r≤f.infRung:=by
 unfold Ieee.Format.nearest
 split
 ·exact ⟨0,rfl,Nat.zero_le _⟩
 ·exact ⟨_,rfl,Nat.min_le_right _ _⟩
theorem word_mod (f:Ieee.Format) (s:Bool) (r:Nat) (h:r<f.signWeight):f.word s r % f.signWeight=r:=by
 unfold Ieee.Format.word
 split
 ·rw[Nat.add_mod_left,Nat.mod_eq_of_lt h]
 ·exact Nat.mod_eq_of_lt h
theorem infRung_lt (k:FloatKind):k.format.infRung<k.format.signWeight:=by cases k <;>decide
theorem binade_le (k:FloatKind):k.format.binade≤k.format.infRung:=by cases k <;>decide
theorem write_num {k:FloatKind} {d:Ieee.Datum} (h:∀ s t,d ≠ .nan s t):isNaN k (k.format.write d)=false:=by
 unfold isNaN FloatKind.decode
 rw[read_isNaN _ _ (binade_le k)]
 cases d with
 | nan s t=>exact absurd rfl (h s t)
 | infinity s =>
   simp only[Ieee.Format.write,word_mod _ _ _ (infRung_lt k)];simp
 | number s m e =>
   obtain ⟨r,hr,hle⟩:=nearest_le k.format s m e (infRung_lt k)
   simp only[Ieee.Format.write,hr,word_mod _ _ _ (Nat.lt_of_le_of_lt hle (infRung_lt k))]
   simpa using hle
theorem some_not_nan {k:FloatKind} {o:Option Ieee.Datum} {r:Nat} (ho:∀ d,o=some d→∀ s t,d ≠ .nan s t) (h:o.map k.format.write=some r):canon k r=r:=by
 cases o with
 | none=>simp at h
 | some d =>
   simp only[Option.map_some,Option.some.injEq] at h
   subst h
   exact canon_num (write_num (ho d rfl))
theorem sum_not_nan {x y d:Ieee.Datum} (h:x.sum y=some d):∀ s t,d ≠ .nan s t:=by
 intro s t e;subst e
 cases x <;>cases y <;>simp[Ieee.Datum.sum] at h
theorem product_not_nan {x y d:Ieee.Datum} (h:x.product y=some d):∀ s t,d ≠ .nan s t:=by
 intro s t e;subst e
 cases x <;>cases y <;>simp[Ieee.Datum.product] at h
theorem quotient_not_nan {n:Nat} {x y d:Ieee.Datum} (h:x.quotient n y=some d):∀ s t,d ≠ .nan s t:=by
 intro s t e;subst e
 cases x <;>cases y <;>simp[Ieee.Datum.quotient] at h
 all_goals (split at h <;>(try split at h) <;>simp at h)
theorem root_not_nan {n:Nat} {x d:Ieee.Datum} (h:x.root n=some d):∀ s t,d ≠ .nan s t:=by
 intro s t e;subst e
 cases x <;>simp[Ieee.Datum.root] at h
 all_goals (split at h <;>(try split at h) <;>simp at h)
theorem add_num {k:FloatKind} {x y r:Nat} (h:k.format.add x y=some r):canon k r=r:=some_not_nan (fun _ hd=>sum_not_nan hd) h
theorem sub_num {k:FloatKind} {x y r:Nat} (h:k.format.sub x y=some r):canon k r=r:=some_not_nan (fun _ hd=>sum_not_nan hd) h
theorem mul_num {k:FloatKind} {x y r:Nat} (h:k.format.mul x y=some r):canon k r=r:=some_not_nan (fun _ hd=>product_not_nan hd) h
theorem div_num {k:FloatKind} {x y r:Nat} (h:k.format.div x y=some r):canon k r=r:=some_not_nan (fun _ hd=>quotient_not_nan hd) h
theorem sqrt_num {k:FloatKind} {x r:Nat} (h:k.format.sqrt x=some r):canon k r=r:=some_not_nan (fun _ hd=>root_not_nan hd) h
theorem cut_nan (k:FloatKind) (t:Nat):isNaN k (match k with
  | .f32=>(t % 2) * 2 ^ 31+0x7f800000+1+(t / 2) % (2 ^ 23 - 1)
  | .f64=>(t % 2) * 2 ^ 63+0x7ff0000000000000+1+(t / 2) % (2 ^ 52 - 1))=true:=by
 cases k
 ·simp only[isNaN_f32,decide_eq_true_eq]
  have h1:t / 2 % (2 ^ 23 - 1)<8388607:=Nat.mod_lt _ (by decide)
  generalize t / 2 % (2 ^ 23 - 1)=r at h1 ⊢
  have h2:t % 2=0∨t % 2=1:=by omega
  rcases h2 with h2 | h2 <;>rw[h2] <;>omega
 ·simp only[isNaN_f64,decide_eq_true_eq]
  have h1:t / 2 % (2 ^ 52 - 1)<4503599627370495:=Nat.mod_lt _ (by decide)
  generalize t / 2 % (2 ^ 52 - 1)=r at h1 ⊢
  have h2:t % 2=0∨t % 2=1:=by omega
  rcases h2 with h2 | h2 <;>rw[h2] <;>omega
theorem cut_nanBits (k:FloatKind) (x y t:Nat):isNaN k ((Question.nanBits k x y).cut t)=true:=by
 have:=cut_nan k t
 cases k <;>exact this
theorem cut_nanConv (k:FloatKind) (x t:Nat):isNaN k ((Question.nanConv k x).cut t)=true:=by
 have:=cut_nan k t
 cases k <;>exact this
theorem cut_nanMinMax (k:FloatKind) (m:Bool) (x y t:Nat):isNaN k ((Question.nanMinMax k m x y).cut t)=true:=by
 have:=cut_nan k t
 cases k <;>exact this
theorem xor_mod (b n:Nat):(b ^^^ 2 ^ n) % 2 ^ n=b % 2 ^ n:=by
 rw[Nat.xor_mod_two_pow,Nat.mod_self,Nat.xor_zero]
theorem isNaN_neg (k:FloatKind) (b:Nat):isNaN k (Op.negFloat k b)=isNaN k b:=by
 unfold isNaN FloatKind.decode
 rw[read_isNaN _ _ (binade_le k),read_isNaN _ _ (binade_le k)]
 unfold Op.negFloat Ieee.Format.signWeight
 rw[xor_mod]
theorem negF_canon (k:FloatKind) (b:Nat):canon k (Op.negFloat k b)=negF k (canon k b):=by
 unfold negF
 rw[isNaN_canon]
 by_cases h:isNaN k b=true
 ·rw[if_pos h,canon_nan (by rw[isNaN_neg];exact h)]
 ·rw[if_neg h,canon_num (by rw[isNaN_neg];simpa using h),canon_num (b:=b) (by simpa using h)]
  rfl
end Go.Desk
end
section
namespace Go.Desk
open Go
section
variable {P:Program} {w:World}
theorem toList_bytes (l:List UInt8):(⟨⟨l⟩⟩:ByteArray).toList=l:=by
 rw[Go.ByteArray.toList_eq]
theorem binT_int {op:BinOp} {k k':IntKind} {m n:Int} {r:T} (xt:TypeId) (h:binT op (.int k m) (.int k' n)=some r) :
  ∃ z,(binOp op xt (.int k m) (.int k' n)).run P w = .ok z w∧LeafRel r z:=by
 cases op
 case shl =>
  simp only[binT] at h
  split at h <;>simp at h
  subst h
  exact ⟨_,by simp only[binOp,Op.shift];rw[if_neg (by omega)];rfl,rfl⟩
 case shr =>
  simp only[binT] at h
  split at h <;>simp at h
  subst h
  exact ⟨_,by simp only[binOp,Op.shift];rw[if_neg (by omega)];rfl,rfl⟩
 case quo =>
  simp only[binT] at h
  split at h <;>(try simp at h)
  obtain ⟨h0,rfl⟩:=h
  subst_vars
  exact ⟨_,by simp[binOp,Op.intDiv,h0],rfl⟩
 case rem =>
  simp only[binT] at h
  split at h <;>(try simp at h)
  obtain ⟨h0,rfl⟩:=h
  subst_vars
  exact ⟨_,by simp[binOp,Op.intDiv,h0],rfl⟩
 all_goals
  simp only[binT] at h
  split at h <;>simp at h
  subst_vars
  refine ⟨_,by simp[binOp,Op.intArith,Op.intBits,Op.intCmp];rfl,?_⟩
  simp[LeafRel,intBits]
theorem binT_str {op:BinOp} {m n:List UInt8} {r:T} (xt:TypeId) (h:binT op (.str m) (.str n)=some r) :
  ∃ z,(binOp op xt (.string ⟨⟨m⟩⟩) (.string ⟨⟨n⟩⟩)).run P w = .ok z w∧LeafRel r z:=by
 cases op
 case add =>
  simp only[binT] at h
  split at h <;>simp at h
  subst h
  refine ⟨.string (⟨⟨m⟩⟩++⟨⟨n⟩⟩),?_,?_⟩
  ·simp only[binOp,Op.stringOp]
   rw[if_neg]
   ·rfl
   ·simp[ByteArray.size,IntKind.max_i64];omega
  ·simp only[LeafRel]
   congr 1
 all_goals
  simp only[binT] at h
  first
  | (simp at h;done)
  | (simp only[Option.some.injEq] at h
     subst h
     refine ⟨_,by simp[binOp,Op.stringOp];rfl,?_⟩
     simp[LeafRel])
theorem run_float {k:FloatKind} {op:BinOp} {x y:Nat} {o:Option Nat} (h:Op.floatArith op k x y=(do
   match o with
   | some r=>pure (.float k r)
   | none=>pure (.float k (← choose (.nanBits k x y))))) (hc:∀ r,o=some r→canon k r=r) :
  ∃ z w',(Op.floatArith op k x y).run P w = .ok z w'∧LeafRel (qfop k o) z∧(w'=w∨w'=w.drew):=by
 rw[h]
 cases o with
 | some r=>exact ⟨_,w,rfl,⟨r,rfl,hc r rfl⟩,.inl rfl⟩
 | none =>
   exact ⟨.float k ((Question.nanBits k x y).cut (w.tape w.drawn (.nanBits k x y))),w.drew,rfl,⟨_,rfl,canon_nan (cut_nanBits k x y _)⟩,.inr rfl⟩
theorem binT_flt {op:BinOp} {k k':FloatKind} {x y b c:Nat} {r:T} (xt:TypeId) (h:binT op (.flt k x) (.flt k' y)=some r) (hx:canon k b=x) (hy:canon k' c=y) :
  ∃ z w',(binOp op xt (.float k b) (.float k' c)).run P w = .ok z w'∧LeafRel r z∧(w'=w∨w'=w.drew):=by
 subst hx hy
 cases op
 case add =>
  simp only[binT] at h;split at h <;>simp at h;rename_i hk;subst h;subst hk
  rw[add_canon]
  have:=run_float (P:=P) (w:=w) (k:=k) (op:=.add) (x:=b) (y:=c) (o:=k.format.add b c) (by simp only[Op.floatArith];cases k.format.add b c <;>rfl) (fun r hr=>add_num hr)
  simpa [binOp] using this
 case sub =>
  simp only[binT] at h;split at h <;>simp at h;rename_i hk;subst h;subst hk
  rw[sub_canon]
  have:=run_float (P:=P) (w:=w) (k:=k) (op:=.sub) (x:=b) (y:=c) (o:=k.format.sub b c) (by simp only[Op.floatArith];cases k.format.sub b c <;>rfl) (fun r hr=>sub_num hr)
  simpa [binOp] using this
 case mul =>
  simp only[binT] at h;split at h <;>simp at h;rename_i hk;subst h;subst hk
  rw[mul_canon]
  have:=run_float (P:=P) (w:=w) (k:=k) (op:=.mul) (x:=b) (y:=c) (o:=k.format.mul b c) (by simp only[Op.floatArith];cases k.format.mul b c <;>rfl) (fun r hr=>mul_num hr)
  simpa [binOp] using this
 case quo =>
  simp only[binT] at h;split at h <;>simp at h;rename_i hk;subst h;subst hk
  rw[div_canon]
  have:=run_float (P:=P) (w:=w) (k:=k) (op:=.quo) (x:=b) (y:=c) (o:=k.format.div b c) (by simp only[Op.floatArith];cases k.format.div b c <;>rfl) (fun r hr=>div_num hr)
  simpa [binOp] using this
 all_goals
  simp only[binT] at h
  first
  | (simp at h;done)
  | (split at h <;>simp at h
     subst_vars
     refine ⟨_,w,by simp[binOp,Op.floatCmp];rfl,?_,.inl rfl⟩
     simp[LeafRel,order_canon])
theorem binT_bool {op:BinOp} {x y:Bool} {r:T} (xt:TypeId) (ht:P.underlying xt=some .bool) (h:binT op (.bool x) (.bool y)=some r) :
  ∃ z,(binOp op xt (.bool x) (.bool y)).run P w = .ok z w∧LeafRel r z:=by
 cases op <;>simp only[binT] at h <;>(try (simp at h;done)) <;>simp only[Option.some.injEq] at h <;>subst h
 ·refine ⟨.bool (x==y),?_,rfl⟩
  simp only[binOp,Sem.run_bind]
  rw[run_equal_bool _ _ _ _ ht]
  rfl
 ·refine ⟨.bool (!(x==y)),?_,rfl⟩
  simp only[binOp,Sem.run_bind]
  rw[run_equal_bool _ _ _ _ ht]
  rfl
theorem andNot_top (b:Nat):intBits .andNot .u64 (b:Int) 9223372036854775808=((b % 9223372036854775808:Nat):Int):=by
 have h:(BitVec.ofInt 64 (b:Int) &&& ~~~(BitVec.ofInt 64 9223372036854775808)).toNat=b % 9223372036854775808:=by
  have e1:BitVec.ofInt 64 (b:Int)=BitVec.ofNat 64 b:=by
   apply BitVec.eq_of_toNat_eq
   simp
  have e2 : ~~~(BitVec.ofInt 64 9223372036854775808)=BitVec.ofNat 64 (2 ^ 63 - 1):=by decide
  rw[e1,e2,BitVec.toNat_and,BitVec.toNat_ofNat,BitVec.toNat_ofNat,Nat.mod_eq_of_lt (show 2 ^ 63 - 1<2 ^ 64 by decide),Nat.and_two_pow_sub_one_eq_mod]
  omega
 show IntKind.u64.wrap (((BitVec.ofInt 64 (b:Int) &&& ~~~(BitVec.ofInt 64 9223372036854775808)).toNat:Nat):Int)=_
 rw[h]
 have:=Nat.mod_lt b (show 0<9223372036854775808 by decide)
 rw[show IntKind.u64.wrap ((b % 9223372036854775808:Nat):Int)=((b % 9223372036854775808:Nat):Int) % 18446744073709551616 by simp[IntKind.wrap,IntKind.bits,IntKind.signed]]
 omega
theorem binT_sound {op:BinOp} {E:Env} {xt:Nat} {X Y:Operand} {u v r:T} {x y:Value} (hE:TysOk P E) (hb:binOk E xt u=true) (h:binT op u v=some r) (hx:LeafRel u x) (hy:LeafRel v y) :
  ∃ z w',(do eqGuard op xt X Y x y;binOp op xt x y:Sem Value).run P w = .ok z w'∧LeafRel r z∧(w'=w∨w'=w.drew):=by
 cases u with
 | int k m =>
   simp only[LeafRel] at hx;subst hx
   cases v with
   | int k' n =>
     simp only[LeafRel] at hy;subst hy
     obtain ⟨z,h1,h2⟩:=binT_int (P:=P) (w:=w) xt h
     exact ⟨z,w,by rw[eqGuard_at_int];exact h1,h2,.inl rfl⟩
   | _=>simp[binT] at h
 | flt k m =>
   obtain ⟨b,rfl,hb1⟩:=hx
   cases v with
   | flt k' n =>
     obtain ⟨c,rfl,hc1⟩:=hy
     obtain ⟨z,w',h1,h2,h3⟩:=binT_flt (P:=P) (w:=w) xt h hb1 hc1
     exact ⟨z,w',by rw[eqGuard_at_float];exact h1,h2,h3⟩
   | _=>simp[binT] at h
 | str m =>
   simp only[LeafRel] at hx;subst hx
   cases v with
   | str n =>
     simp only[LeafRel] at hy;subst hy
     obtain ⟨z,h1,h2⟩:=binT_str (P:=P) (w:=w) xt h
     exact ⟨z,w,by rw[eqGuard_at_string];exact h1,h2,.inl rfl⟩
   | _=>simp[binT] at h
 | bool m =>
   simp only[LeafRel] at hx;subst hx
   cases v with
   | bool n =>
     simp only[LeafRel] at hy;subst hy
     have ht:P.underlying xt=some .bool:=by
      unfold binOk at hb
      simp only at hb
      split at hb
      ·rename_i d hd
       obtain ⟨u,hu,hk,_⟩:=(hE xt d hd).und
       unfold KdOk at hk
       split at hb
       ·rename_i hkd;rw[hkd] at hk;rw[hu,hk]
       ·simp at hb
      ·simp at hb
     obtain ⟨z,h1,h2⟩:=binT_bool (P:=P) (w:=w) xt ht h
     exact ⟨z,w,by rw[eqGuard_at_bool];exact h1,h2,.inl rfl⟩
   | _=>simp[binT] at h
 | opq =>
   obtain ⟨b,hb0,rfl⟩:=hx
   cases v with
   | int k' n =>
     simp only[LeafRel] at hy;subst hy
     cases k' <;>try (simp[binT] at h;done)
     cases op <;>try (simp[binT] at h;done)
     simp only[binT] at h
     split at h <;>simp at h
     subst h
     rename_i hn
     subst hn
     refine ⟨.int .u64 ((b % 9223372036854775808:Nat):Int),w,?_,⟨b % 9223372036854775808,?_,rfl⟩,.inl rfl⟩
     ·rw[eqGuard_at_int,← andNot_top]
      simp[binOp,Op.intBits,intBits]
     ·rw[isNaN_f64] at hb0 ⊢
      rw[Nat.mod_mod];exact hb0
   | _=>simp[binT] at h
 | _=>simp[binT] at h
theorem unT_sound {op:UnOp} {u r:T} {x:Value} (h:unT op u=some r) (hx:LeafRel u x) :
  ∃ z,(Op.unary op x).run P w = .ok z w∧LeafRel r z:=by
 cases u with
 | bool b =>
   simp only[LeafRel] at hx;subst hx
   cases op <;>simp[unT] at h
   subst h
   exact ⟨_,rfl,rfl⟩
 | int k n =>
   simp only[LeafRel] at hx;subst hx
   cases op <;>simp[unT] at h
   subst h
   exact ⟨.int k (k.wrap (0 - n)),by simp[Op.unary,Op.intArith],by simp[LeafRel]⟩
 | flt k n =>
   obtain ⟨b,rfl,rfl⟩:=hx
   cases op <;>simp[unT] at h
   subst h
   exact ⟨_,rfl,_,rfl,negF_canon k b⟩
 | _=>simp[unT] at h
end
end Go.Desk
end
section
namespace Go.Desk
open Go
section
variable {P:Program} {w:World}
theorem canon_nearest (k:FloatKind) (n:Int):canon k (k.nearest n)=k.nearest n :=
 canon_num (write_num (d:=.number _ _ _) (by simp))
theorem decode_canon_cases (k:FloatKind) (b:Nat):(canon k b=b)∨(∃ s t s' t',k.decode b = .nan s t∧k.decode (canon k b) = .nan s' t'):=by
 by_cases h:isNaN k b=true
 ·obtain ⟨s,t,e⟩:=nan_read h
  obtain ⟨s',t',e'⟩:=nan_read (isNaN_qnan k)
  exact .inr ⟨s,t,s',t',e,by rw[canon_nan h];exact e'⟩
 ·exact .inl (canon_num (by simpa using h))
theorem fltToInt_sound {s:FloatKind} {b:Nat} {k:IntKind} {n:Int} (h:fltToInt s (canon s b) k=some n) :
  (Conv.floatToInt s b k).run P w = .ok (.int k n) w:=by
 unfold fltToInt at h
 rcases decode_canon_cases s b with hc | ⟨s1,t1,s2,t2,h1,h2⟩
 ·rw[hc] at h
  unfold Conv.floatToInt
  split at h
  ·rename_i m hm
   split at h
   ·rename_i hle
    simp only[Option.some.injEq] at h
    subst h
    simp[hm,hle]
   ·simp at h
  ·simp at h
 ·rw[h2] at h
  simp[Ieee.Datum.toInt,Ieee.Datum.integral] at h
theorem fltToFlt_sound {s k:FloatKind} {b:Nat} {y:Nat} (h:fltToFlt s (canon s b) k=some y) :
  ∃ z w',(Conv.floatToFloat s b k).run P w = .ok z w'∧LeafRel (.flt k y) z∧(w'=w∨w'=w.drew):=by
 unfold fltToFlt at h
 unfold Conv.floatToFloat
 by_cases hk:s=k
 ·subst hk
  simp only[if_true,Option.some.injEq] at h
  subst h
  exact ⟨.float s b,w,by simp,⟨b,rfl,rfl⟩,.inl rfl⟩
 ·rw[if_neg hk] at h
  rw[if_neg hk]
  rcases decode_canon_cases s b with hc | ⟨s1,t1,s2,t2,h1,h2⟩
  ·rw[hc] at h
   split at h
   ·rename_i hd
    simp only[Option.some.injEq] at h
    subst h
    simp only[hd]
    exact ⟨.float k ((Question.nanConv k b).cut (w.tape w.drawn (.nanConv k b))),w.drew,rfl,⟨_,rfl,canon_nan (cut_nanConv k b _)⟩,.inr rfl⟩
   ·rename_i hd
    simp only[Option.some.injEq] at h
    subst h
    simp only[hd]
    exact ⟨_,w,rfl,⟨_,rfl,canon_num (write_num (by simp))⟩,.inl rfl⟩
   ·rename_i hd
    split at h
    ·simp at h
    rename_i hi
    simp only[Option.some.injEq] at h
    subst h
    simp only[hd]
    simp only[hi,Bool.false_eq_true,if_false]
    exact ⟨_,w,rfl,⟨_,rfl,canon_num (write_num (by simp))⟩,.inl rfl⟩
  ·rw[h2] at h
   simp only[Option.some.injEq] at h
   subst h
   simp only[h1]
   exact ⟨.float k ((Question.nanConv k b).cut (w.tape w.drawn (.nanConv k b))),w.drew,rfl,⟨_,rfl,canon_nan (cut_nanConv k b _)⟩,.inr rfl⟩
theorem convT_sound {src dst:Nat} {E:Env} {d:TD} {u r:T} {x:Value} {us:TypeDesc} (hs:P.underlying src=some us) (hns:∀ e,us ≠ .slice e)
  (hd:∃ ud,P.underlying dst=some ud∧KdOk E d ud) (h:convT d.kd u=some r) (hx:LeafRel u x) :
  ∃ z w',(convert src dst x).run P w = .ok z w'∧LeafRel r z∧(w'=w∨w'=w.drew):=by
 obtain ⟨ud,h1,h2⟩:=hd
 unfold KdOk at h2
 unfold convT at h
 split at h
 ·rename_i k k' n hk
  rw[hk] at h2
  simp only[LeafRel] at hx
  subst h2 hx
  simp only[Option.some.injEq] at h
  subst h
  refine ⟨.int k (k.wrap n),w,?_,rfl,.inl rfl⟩
  simp only[convert,Sem.run_bind,run_underlying hs,run_underlying h1,Result.andThen_ok]
  cases us <;>simp[Conv.intToInt]
 ·rename_i k k' n hk
  rw[hk] at h2
  simp only[LeafRel] at hx
  subst h2 hx
  simp only[Option.some.injEq] at h
  subst h
  refine ⟨.float k (k.nearest n),w,?_,⟨_,rfl,canon_nearest k n⟩,.inl rfl⟩
  simp only[convert,Sem.run_bind,run_underlying hs,run_underlying h1,Result.andThen_ok]
  cases us <;>simp[Conv.intToFloat]
 ·rename_i k s x' hk
  rw[hk] at h2
  obtain ⟨b,rfl,rfl⟩:=hx
  subst h2
  split at h
  ·rename_i n hn
   simp only[Option.some.injEq] at h
   subst h
   refine ⟨.int k n,w,?_,rfl,.inl rfl⟩
   have:=fltToInt_sound (P:=P) (w:=w) hn
   simp only[convert,Sem.run_bind,run_underlying hs,run_underlying h1,Result.andThen_ok]
   cases us <;>simpa using this
  ·simp at h
 ·rename_i k s x' hk
  rw[hk] at h2
  obtain ⟨b,rfl,rfl⟩:=hx
  subst h2
  split at h
  ·rename_i n hn
   simp only[Option.some.injEq] at h
   subst h
   obtain ⟨z,w',e1,e2,e3⟩:=fltToFlt_sound (P:=P) (w:=w) hn
   refine ⟨z,w',?_,e2,e3⟩
   simp only[convert,Sem.run_bind,run_underlying hs,run_underlying h1,Result.andThen_ok]
   cases us <;>simpa using e1
  ·simp at h
 ·rename_i hk
  rw[hk] at h2
  simp only[LeafRel] at hx
  subst h2 hx
  simp only[Option.some.injEq] at h
  subst h
  refine ⟨_,w,?_,rfl,.inl rfl⟩
  simp only[convert,Sem.run_bind,run_underlying hs,run_underlying h1,Result.andThen_ok]
  cases us <;>simp
 ·simp at h
theorem bytesT_sound {Fz:Nat→Prop} {Lt:Nat→Nat→Prop} {g:Nat}:∀ {ts:List T} {bs:List UInt8} {vs:List Value} {fp:Fp} {n:Nat},bytesT ts=some bs→R w Fz Lt g (rep n [.leaf]) ts vs fp →
  (∀ c∈vs,∃ n:Int,c = .int .u8 n)∧vs.map (fun c=>match c with | .int _ n=>UInt8.ofNat n.toNat | _=>0)=bs
 | [],bs,vs,fp,n,h,hR=>by
   simp only[bytesT,Option.some.injEq] at h
   subst h
   have:=hR.lengths
   cases vs with
   | nil=>simp
   | cons=>simp at this
 | t::ts,bs,vs,fp,n,h,hR=>by
   unfold bytesT at h
   split at h
   ·simp_all
   ·rename_i heq
    obtain ⟨rfl,rfl⟩:=List.cons.inj heq
    split at h
    ·simp at h
    ·rename_i bs' hb
     simp only[Option.some.injEq] at h
     subst h
     cases n with
     | zero=>simp[rep] at hR;cases hR
     | succ n =>
       have e:rep (n+1) [Pm.leaf] = .leaf::rep n [.leaf]:=by simp[rep,List.replicate_succ]
       rw[e] at hR
       cases hR with
       | leaf hl r =>
         simp only[LeafRel] at hl
         subst hl
         obtain ⟨k1,k2⟩:=bytesT_sound hb r
         exact ⟨by simpa using k1,by simp[k2]⟩
   ·simp at h
theorem run_forIn_bytes:∀ (vs:List Value) (acc:ByteArray),(∀ c∈vs,∃ n:Int,c = .int .u8 n) →
  (forIn (m:=Sem) vs acc fun c s=>(match c with
    | .int .u8 n=>pure (ForInStep.yield (s.push (UInt8.ofNat n.toNat)))
    | _=>do
      stuck "bytesToString: byte expected"
      pure (ForInStep.yield s):Sem (ForInStep ByteArray))).run P w =
  .ok ⟨⟨acc.data.toList++vs.map (fun c=>match c with | .int _ n=>UInt8.ofNat n.toNat | _=>0)⟩⟩ w
 | [],acc,_=>by simp
 | v::vs,acc,h=>by
   obtain ⟨n,rfl⟩:=h v (by simp)
   simp only[List.forIn_cons,pure_bind]
   rw[run_forIn_bytes vs _ (fun c hc=>h c (by simp[hc]))]
   simp[ByteArray.push]
theorem run_bytesToString {b off n cap:Nat} {row:Array Value} {e:TypeId} {fr:Nat × Nat} (hb:w.heap[b]?=some (.cells row e fr)) (hr:off+n≤row.size)
  (h:∀ c∈seg row off n,∃ m:Int,c = .int .u8 m) :
  (Conv.bytesToString (.slice (some ⟨b,off,none⟩) n cap)).run P w =
    .ok (.string ⟨⟨(seg row off n).map (fun c=>match c with | .int _ n=>UInt8.ofNat n.toNat | _=>0)⟩⟩) w:=by
 have:=run_forIn_bytes (P:=P) (w:=w) (seg row off n) .empty h
 simp only[Conv.bytesToString,Sem.run_bind,run_loadCells hb hr,Result.andThen_ok,Array.forIn_toList.symm]
 refine (congrArg (fun r=>Result.andThen r fun a w'=>Sem.run P (pure (Value.string a)) w') this).trans rfl
theorem minmax_sound {m:Bool} {u v r:T} {x y:Value} (h:minmax m u v=some r) (hx:LeafRel u x) (hy:LeafRel v y) :
  ∃ z w',(if m then Builtin.max2 x y else Builtin.min2 x y).run P w = .ok z w'∧LeafRel r z∧(w'=w∨w'=w.drew):=by
 unfold minmax at h
 split at h
 ·simp only[LeafRel] at hx hy
  subst hx hy
  cases m
  ·simp only[Bool.false_eq_true,if_false,Option.some.injEq] at h ⊢
   subst h
   exact ⟨_,w,by simp[Builtin.min2],rfl,.inl rfl⟩
  ·simp only[if_true,Option.some.injEq] at h ⊢
   subst h
   exact ⟨_,w,by simp[Builtin.max2],rfl,.inl rfl⟩
 ·rename_i k x0 k' y0
  obtain ⟨b,rfl,rfl⟩:=hx
  obtain ⟨c,rfl,rfl⟩:=hy
  by_cases hk:k=k'
  ·subst hk
   simp only[ne_eq,not_true_eq_false,if_false,order_canon] at h
   cases ho:k.format.order b c with
   | none =>
     simp only[ho,Option.some.injEq] at h
     subst h
     refine ⟨.float k ((Question.nanMinMax k m b c).cut (w.tape w.drawn (.nanMinMax k m b c))),w.drew,?_,⟨_,rfl,canon_nan (cut_nanMinMax k m b c _)⟩,.inr rfl⟩
     cases m <;>simp only[Bool.false_eq_true,if_false,if_true,Builtin.max2,Builtin.min2,ho] <;>rfl
   | some o =>
     have hxn:canon k b=b:=by
      rcases decode_canon_cases k b with hc | ⟨s1,t1,s2,t2,h1,h2⟩
      ·exact hc
      ·simp only[Ieee.Format.order] at ho
       unfold FloatKind.decode at h1
       rw[h1,order_nan1] at ho;simp at ho
     have hyn:canon k c=c:=by
      rcases decode_canon_cases k c with hc | ⟨s1,t1,s2,t2,h1,h2⟩
      ·exact hc
      ·simp only[Ieee.Format.order] at ho
       unfold FloatKind.decode at h1
       rw[h1,order_nan2] at ho;simp at ho
     rw[hxn,hyn] at h
     cases o <;>simp only[ho,Option.some.injEq] at h <;>subst h <;>cases m <;>
      simp only[Bool.false_eq_true,if_false,if_true,Builtin.max2,Builtin.min2,ho]
     all_goals first
      | exact ⟨_,w,rfl,⟨_,rfl,hxn⟩,.inl rfl⟩
      | exact ⟨_,w,rfl,⟨_,rfl,hyn⟩,.inl rfl⟩
      | (cases (k.decode b).neg <;>first
          | exact ⟨_,w,rfl,⟨_,rfl,hxn⟩,.inl rfl⟩
          | exact ⟨_,w,rfl,⟨_,rfl,hyn⟩,.inl rfl⟩)
  ·simp[hk] at h
 ·simp at h
theorem minmaxs_sound {m:Bool}:∀ {us:List T} {xs:List Value} {u r:T} {x:Value} {w:World},minmaxs m u us=some r→LeafRel u x→xs.length=us.length →
  (∀ (i:Nat) (t:T) (v:Value),us[i]?=some t→xs[i]?=some v→LeafRel t v) →
  ∃ z w',(xs.foldlM (if m then Builtin.max2 else Builtin.min2) x).run P w = .ok z w'∧LeafRel r z∧Ext w w' (fun _ _=>False)
 | [],xs,u,r,x,w,h,hx,hl,_=>by
   simp only[minmaxs,Option.some.injEq] at h
   subst h
   cases xs with
   | nil=>exact ⟨x,w,rfl,hx,Ext.refl _ _⟩
   | cons=>simp at hl
 | t::us,xs,u,r,x,w,h,hx,hl,ha=>by
   unfold minmaxs at h
   cases hm:minmax m u t with
   | none=>simp[hm] at h
   | some r1 =>
     simp only[hm] at h
     cases xs with
     | nil=>simp at hl
     | cons y ys =>
       obtain ⟨z,w',e1,e2,e3⟩:=minmax_sound (P:=P) (w:=w) hm hx (ha 0 t y rfl rfl)
       obtain ⟨z',w'',f1,f2,f3⟩:=minmaxs_sound (w:=w') h e2 (by simpa using hl) (fun i a b ha' hb'=>ha (i+1) a b (by simpa using ha') (by simpa using hb'))
       refine ⟨z',w'',?_,f2,?_⟩
       ·simp only[List.foldlM_cons,Sem.run_bind]
        have:((if m=true then Builtin.max2 else Builtin.min2) x y).run P w = .ok z w' :=by cases m <;>simpa using e1
        rw[this]
        exact f1
       ·have:Ext w w' (fun _ _=>False):=by
         rcases e3 with rfl | rfl
         ·exact Ext.refl _ _
         ·exact (Ext.refl w _).drew
        exact this.trans f3 (fun _ _ h=>h) (fun _ _ _ h=>h)
end
end Go.Desk
end
section
namespace Go.Desk
open Go
section
variable {C:Ctx} {w w':World} {a a':Act} {σ:AS} {Lt Lt':Nat→Nat→Prop} {cv cv':Nat→Value} {fp fpU:Nat→Fp} {g':Nat} {env':List (Nat × Slot)} {o:Oper}
theorem Ctx.Ok.part {C:Ctx} {x y:Fe} (h:C.Ok y) (hb:y.b=x.b) (hl:y.lo≤x.lo) (ht:x.t≤y.t):C.Ok x:=by
 rcases h with h | ⟨z,hz,h1,h2,h3⟩
 ·exact .inl (hb ▸ h)
 ·exact .inr ⟨z,hz,h1.trans hb,Nat.le_trans h2 hl,Nat.le_trans ht h3⟩
open Classical in
theorem StW.turn {W:Nat→Nat→Prop} {ow:Nat→Nat} (U:Nat→Prop) (h:StW C w a σ Lt cv fp) (hx:Ext w w' W)
  (hW:∀ b j,b<w.heap.size→W b j→C.w0.heap.size≤b∨C.Mut b j)
  (hg:(g'=σ.g∧(∀ b j,Lt b j→Lt' b j)∧(∀ b j,Lt b j→¬ W b j))∨(σ.g<g'∧Lt'=fun _ _=>False))
  (htm:∀ k,k<1000000→cv' k=a'.tmps.getD k undef) (hsz:a'.tmps.size≤1000000)
  (hu:∀ k,¬ U k→get env' k=get σ.env k∧cv' k=cv k∧(∀ n,get σ.env k = .tup n→n≤16→∀ i,i<n→cv' (vslot k i)=cv (vslot k i)) ∧
     (∀ x∈fp k,(∀ j,x.lo≤j→j<x.hi→¬ W x.b j)∧∀ j,x.l≤j→¬ Lt' x.b j))
  (hU:∀ k,U k→SlotR C w' Lt' g' cv' env' k (fpU k) (get env' k)∧((fpU k).map Fe.b).Nodup ∧
    (∀ k'∈(get env' k).looks,k'<1000000∧seenOk (get env' k')) ∧
    (k<1000000→seenOk (get σ.env k)→KeepsLooks w w' (cv k) (get σ.env k) (cv' k) (get env' k)∧seenOk (get env' k)) ∧
    (∀ x∈fpU k,ow x.b=k∧(w.heap.size≤x.b∨∃ k0,U k0∧∃ y∈fp k0,y.b=x.b∧y.lo≤x.lo∧x.t≤y.t)))
  (hlt:∀ b j,Lt' b j→b<w'.heap.size):∃ fp',StW C w' a' ⟨env',g'⟩ Lt' cv' fp' :=by
 refine ⟨fun k=>if U k then fpU k else fp k,h.step hx hW hg htm hsz (fun k => ?_) ?_ hlt⟩
 ·by_cases hk:U k
  ·obtain ⟨h1,h2,h3,h4,h5⟩:=hU k hk
   simp only[if_pos hk]
   refine .inr ⟨h1,h2,fun f hf => ?_,h3⟩
   rcases (h5 f hf).2 with h6 | ⟨k0,hk0,y,hy,e1,e2,e3⟩
   ·exact .inl (Nat.le_trans h.ext.size h6)
   ·exact (h.wok k0 y hy).part e1 e2 e3
  ·obtain ⟨h1,h2,h3,h4⟩:=hu k hk
   simp only[if_neg hk]
   refine .inl ⟨h1,trivial,h2,h3,h4,fun k' hk' => ?_⟩
   have hs:=(h.looks k k' hk').2
   by_cases hk2:U k'
   ·exact (hU k' hk2).2.2.2.1 (h.looks k k' hk').1 hs
   ·obtain ⟨e1,e2,_,e4⟩:=hu k' hk2
    rw[e1,e2]
    exact ⟨KeepsLooks.same (h.slots k') hx (fun x hx'=>(e4 x hx').1),hs⟩
 ·have key:∀ j k,j≠k→U j→¬ U k→∀ x∈fpU j,∀ y∈fp k,x.b≠y.b:=by
   intro j k _ hj hk x hx' y hy e
   rcases ((hU j hj).2.2.2.2 x hx').2 with h6 | ⟨k0,hk0,z,hz,e1,-⟩
   ·have:=((h.slots k).inHeap hy).1
    omega
   ·have:k0≠k:=fun e=>hk (e ▸ hk0)
    exact h.disj k0 k this z hz y hy (e1.trans e)
  intro j k hjk x hx' y hy e
  by_cases hj:U j <;>by_cases hk:U k
  ·rw[if_pos hj] at hx'
   rw[if_pos hk] at hy
   have e1:=((hU j hj).2.2.2.2 x hx').1
   have e2:=((hU k hk).2.2.2.2 y hy).1
   rw[e] at e1
   exact hjk (e1.symm.trans e2)
  ·rw[if_pos hj] at hx'
   rw[if_neg hk] at hy
   exact key j k hjk hj hk x hx' y hy e
  ·rw[if_neg hj] at hx'
   rw[if_pos hk] at hy
   exact key k j hjk.symm hk hj y hy x hx' e.symm
  ·rw[if_neg hj] at hx'
   rw[if_neg hk] at hy
   exact h.disj j k hjk x hx' y hy e
theorem StW.quiet (h:StW C w a σ Lt cv fp) (hx:Ext w w' (fun _ _=>False)):StW C w' a σ Lt cv fp :=
 h.step (W:=fun _ _=>False) hx (by simp) (.inl ⟨rfl,fun _ _ h=>h,by simp⟩) h.tmps h.size
  (fun k => .inl ⟨rfl,rfl,rfl,fun _ _ _ _ _=>rfl,fun _ hx'=>⟨by simp,(h.slots k).noLt hx'⟩,fun k' hk'=>⟨KeepsLooks.same (h.slots k') hx (by simp),(h.looks k k' hk').2⟩⟩)
  h.disj (fun b j hb=>by have:=h.lt b j hb;have:=hx.size;omega)
def Goes (C:Ctx) (o:Oper) (a:Act) (w:World) (σ':AS):Prop :=
 ∀ next Q,(∀ v w',St C w' (a.put o.dst v) σ'→next (a.put o.dst v) w')→o.wp C.P a w next Q
theorem Goes.value {σ':AS} {v:Value} (hr:(execOp a.eval o).run C.P w = .ok (.value v) w') (h:St C w' (a.put o.dst v) σ'):Goes C o a w σ' :=by
 intro next Q hn
 simp only[Oper.wp,Oper.upon,hr]
 exact hn v w' h
theorem Goes.skip {σ':AS} (hr:(execOp a.eval o).run C.P w = .ok .skip w') (h:St C w' (a.put o.dst undef) σ'):Goes C o a w σ' :=by
 intro next Q hn
 simp only[Oper.wp,Oper.upon,hr]
 exact hn undef w' h
theorem Act.put_defers' (a:Act) (d:Option Nat) (v:Value):(a.put d v).defers=a.defers:=by cases d <;>rfl
theorem dstFresh_spec {old:Slot} {ups:List (Nat × Slot)} {d:Nat} {s:Slot} (h:dstFresh o old ups=true) (hd:o.dst=some d) (hs:get ups d=s) :
  d ∉ s.looks∧(isAssign o.op=true∨freshOk old=true∨s.root=none):=by
 unfold dstFresh at h
 simp only[hd,hs,Bool.and_eq_true,Bool.not_eq_true',Bool.or_eq_true] at h
 refine ⟨fun hm => ?_,?_⟩
 ·have:=h.1
  rw[List.any_eq_false] at this
  exact this d hm (by simp)
 ·rcases h.2 with (h | h) | h
  ·exact .inl h
  ·exact .inr (.inl h)
  ·right;right
   cases hr:s.root with
   | none=>rfl
   | some=>simp[hr] at h
theorem Goes.one {σ:AS} {v:Value} {s:Slot} (hdf:a.defers=[]) (h:StW C w a σ Lt cv fp) (hx:Ext w w' (fun _ _=>False))
  (hr:(execOp a.eval o).run C.P w = .ok (.value v) w')
  (hd:∀ d,o.dst=some d→d<a.tmps.size)
  (hfr:∀ d,o.dst=some d→dstFresh o (get σ.env d) (dstIs o s)=true) (hna:isAssign o.op=false)
  (hs:∀ d,o.dst=some d→d ∉ s.looks→SlotR C w' Lt σ.g (fun k=>if k=d then v else cv k) ((d,s)::σ.env) d [] s)
  (hl:∀ k∈s.looks,k<1000000∧seenOk (get σ.env k)) (hso:seenOk s∨s.root≠none) :
  Goes C o a w ⟨puts (dstIs o s) σ.env,σ.g⟩:=by
 refine Goes.value hr ?_
 refine ⟨by rw[Act.put_defers'];exact hdf,?_⟩
 cases hdst:o.dst with
 | none =>
   simp only[dstIs,hdst,puts,Act.put]
   exact ⟨Lt,cv,fp,h.quiet hx⟩
 | some d =>
   simp only[dstIs,hdst,puts]
   have hg:get (dstIs o s) d=s:=by simp[dstIs,hdst,get]
   obtain ⟨h1,h2⟩:=dstFresh_spec (hfr d hdst) hdst hg
   rw[hna] at h2
   simp only[Bool.false_eq_true,false_or] at h2
   obtain ⟨cv',fp',h'⟩:=h.put1 hx (v:=v) (hd d hdst) (hs d hdst h1) h2.symm (fun k hk=>⟨(hl k hk).1,fun e=>h1 (e ▸ hk),(hl k hk).2⟩)
    (by rcases h2 with h2 | h2
        ·exact .inr h2
        ·exact .inl (hso.resolve_right (fun e=>e h2)))
   exact ⟨Lt,cv',fp',h'⟩
theorem Goes.val {σ:AS} {v:Value} {ag:Bool} {p:List Pm} {cs:List T} {vs:List Value} (hdf:a.defers=[]) (h:StW C w a σ Lt cv fp) (hx:Ext w w' (fun _ _=>False))
  (hr:(execOp a.eval o).run C.P w = .ok (.value v) w')
  (hd:∀ d,o.dst=some d→d<a.tmps.size)
  (hfr:∀ d,o.dst=some d→dstFresh o (get σ.env d) (dstIs o (.val ag p cs [] 0))=true) (hna:isAssign o.op=false)
  (hc:CellsOf ag v vs) (hR:R w' C.Fz Lt σ.g p cs vs []) :
  Goes C o a w ⟨puts (dstIs o (.val ag p cs [] 0)) σ.env,σ.g⟩ :=
 Goes.one hdf h hx hr hd hfr hna (fun d _ _=>⟨vs,by simpa using hc,hR,by simp⟩) (by simp[Slot.looks]) (.inr (by simp[Slot.root]))
theorem Goes.leaf {σ:AS} {v:Value} {t:T} (hdf:a.defers=[]) (h:StW C w a σ Lt cv fp) (hx:Ext w w' (fun _ _=>False))
  (hr:(execOp a.eval o).run C.P w = .ok (.value v) w')
  (hd:∀ d,o.dst=some d→d<a.tmps.size)
  (hfr:∀ d,o.dst=some d→dstFresh o (get σ.env d) (dstIs o (.val false [.leaf] [t] [] 0))=true) (hna:isAssign o.op=false)
  (hl:LeafRel t v) :
  Goes C o a w ⟨puts (dstIs o (.val false [.leaf] [t] [] 0)) σ.env,σ.g⟩ :=
 Goes.val hdf h hx hr hd hfr hna (vs:=[v]) (by simp[CellsOf]) (.leaf hl .nil)
theorem StW.reads (h:StW C w a σ Lt cv fp) {g:Nat} {p:List Pm} {cs:List T} {vs:List Value} (hx:Ext w w' (fun _ _=>False)) (hR:R w C.Fz Lt g p cs vs []):R w' C.Fz Lt g p cs vs [] :=
 hR.mono hx (fun _ h=>h) (fun _ _ h=>h) (by simp) (by simp) (by simp)
end
end Go.Desk
end
section
namespace Go.Desk
open Go
structure Pre (C:Ctx) (o:Oper) (w:World) (a:Act) (σ:AS) (Lt:Nat→Nat→Prop) (cv:Nat→Value) (fp:Nat→Fp):Prop where
 st:StW C w a σ Lt cv fp
 df:a.defers=[]
 ty:TysOk C.P C.E
 dst:∀ d,o.dst=some d→d<a.tmps.size
 opn:∀ x∈o.op.operands.toList,opndOk x
section
variable {C:Ctx} {w w':World} {a a':Act} {σ:AS} {Lt Lt':Nat→Nat→Prop} {cv cv':Nat→Value} {fp fpU:Nat→Fp} {g':Nat} {env':List (Nat × Slot)} {o:Oper}
def Fresh (o:Oper) (σ:AS) (ups:List (Nat × Slot)):Prop:=∀ d,o.dst=some d→dstFresh o (get σ.env d) ups=true
theorem pick_whole {rv:List Value} {p:List Pm} {ag:Bool} (h:rv.length=p.length):Desk.pick rv p (whole p ag)=rv:=by
 have:ix p.length 0 0=0:=by unfold ix;split <;>simp
 simp only[Desk.pick,whole,this,List.drop_zero]
 rw[← h,List.take_length]
theorem ix_zero (n:Nat):ix n 0 0=0:=by unfold ix;split <;>simp
theorem viewR_whole {k:Nat} {ag:Bool} {p:List Pm} {cs:List T} {d:Dirt} {pin:Nat} {f:Fp} (h:SlotR C w Lt σ.g cv σ.env k f (.val ag p cs d pin)) :
  ViewR w (cv k) (.val ag p cs d pin) (whole p ag) (cv k):=by
 intro P CS D hr hst
 simp only[Slot.root,Option.some.injEq,Prod.mk.injEq] at hr
 obtain ⟨rfl,rfl,rfl⟩:=hr
 obtain ⟨vs,h1,h2,-⟩:=h
 exact ⟨vs,none,p,vs,none,⟨h1,rfl⟩,rfl,by rw[pick_whole h2.length_eq.2];exact h1,rfl⟩
theorem ptrR_whole {k:Nat} {p:List Pm} {cs:List T} {d:Dirt} {pin:Nat} {f:Fp} (h:SlotR C w Lt σ.g cv σ.env k f (.box p cs d pin)) :
  PtrR w (cv k) (.box p cs d pin) (whole p false) (cv k):=by
 intro P CS D hr hst
 obtain ⟨vs0,base0,fI,hrv,-,-,hk⟩:=h.rootR hr
 simp only[Slot.root,Option.some.injEq,Prod.mk.injEq] at hr
 obtain ⟨rfl,rfl,rfl⟩:=hr
 rcases hk with ⟨_,_,h1,_⟩ | ⟨pin',b,off,row,e,fr,-,rfl,hcv,-⟩
 ·simp at h1
 ·exact ⟨vs0,_,p,vs0,b,off,hrv,rfl,by rw[hcv];simp[whole,ix_zero],rfl⟩
theorem capsR_set {d:Nat} {v:Value} {s:Slot}:∀ {caps:List (Nat × Place)} {vs:List Value},d ∉ caps.map (·.1)→CapsR w cv σ.env caps vs →
  CapsR w (fun k=>if k=d then v else cv k) ((d,s)::σ.env) caps vs
 | [],[],_,_=>trivial
 | c::caps,u::vs,h,hc=>by
   simp only[List.map_cons,List.mem_cons,not_or] at h
   refine ⟨?_,capsR_set h.2 hc.2⟩
   have e:¬ d=c.1:=h.1
   have e':¬ c.1=d:=fun x=>h.1 x.symm
   simp only[get_cons,if_neg e,if_neg e']
   exact hc.1
 | [],_::_,_,hc=>hc.elim
 | _::_,[],_,hc=>hc.elim
theorem SlotR.copy {t d:Nat} {s s':Slot} {f:Fp} (h:SlotR C w Lt σ.g cv σ.env t f s) (hs:(∃ k pl,s = .view k pl)∨(∃ k pl,s = .ptr k pl)∨∃ fn caps,s = .clo fn caps) (hd:d ∉ s.looks) :
  SlotR C w Lt σ.g (fun k=>if k=d then cv t else cv k) ((d,s')::σ.env) d [] s:=by
 rcases hs with ⟨k,pl,rfl⟩ | ⟨k,pl,rfl⟩ | ⟨fn,caps,rfl⟩
 ·simp only[Slot.looks,List.mem_singleton] at hd
  refine ⟨rfl,?_⟩
  simp only[get_cons,if_neg hd,if_neg (fun e=>hd e.symm:¬ k=d),if_true]
  exact h.2
 ·simp only[Slot.looks,List.mem_singleton] at hd
  refine ⟨rfl,?_⟩
  simp only[get_cons,if_neg hd,if_neg (fun e=>hd e.symm:¬ k=d),if_true]
  exact h.2
 ·obtain ⟨-,vs,h1,h2⟩:=h
  exact ⟨rfl,vs,by simpa using h1,capsR_set hd h2⟩
theorem opMove_goes (H:Pre C o w a σ Lt cv fp) {x:Operand} (hx:opndOk x) (hr:(execOp a.eval o).run C.P w = .ok (.value (a.eval x)) w) (hna:isAssign o.op=false)
  {out:Out} (h:opMove C.E o (resolve1 σ.env x)=some out) (hfr:Fresh o σ out.ups) (hnt:∀ t cs,resolve1 σ.env x ≠ .tup t cs) :
  out.g=none∧Goes C o a w ⟨puts out.ups σ.env,σ.g⟩:=by
 have hst:=H.st
 cases x with
 | const c =>
   simp only[resolve1,opMove] at h
   split at h
   ·simp at h
   ·rename_i v hv
    simp only[Option.some.injEq] at h
    subst h
    obtain ⟨vs,h1,h2⟩:=constV_sound (w:=w) (Lt:=Lt) (Fz:=C.Fz) (g:=σ.g) hv
    exact ⟨rfl,Goes.val H.df hst (Ext.refl _ _) hr H.dst hfr hna h1 h2⟩
 | global g=>simp[resolve1,opMove] at h
 | func f=>simp[resolve1,opMove] at h
 | tmp t =>
   rw[resolve1_tmp] at h hnt
   rw[eval_tmp hst hx] at hr
   have hs:=hst.slots t
   cases hg:get σ.env t with
   | val ag p cs d pin =>
     simp only[hg,opMove] at h
     split at h
     ·rename_i hn
      simp only[Option.some.injEq] at h
      subst h
      rw[hg] at hs
      obtain ⟨vs,h1,h2,-⟩:=hs
      have:=h2.noOwn hn
      rw[this] at h2
      exact ⟨rfl,Goes.val H.df hst (Ext.refl _ _) hr H.dst hfr hna h1 h2⟩
     ·rename_i hn
      simp only[Option.some.injEq] at h
      subst h
      rw[hg] at hs
      refine ⟨rfl,Goes.one H.df hst (Ext.refl _ _) hr H.dst hfr hna (fun d _ hd=>⟨rfl,?_⟩) ?_ (.inl trivial)⟩
      ·simp only[Slot.looks,List.mem_singleton] at hd
       simp only[get_cons,if_neg hd,if_neg (fun e=>hd e.symm:¬ t=d),if_true,hg]
       exact viewR_whole hs
      ·simp only[Slot.looks,List.mem_singleton,forall_eq]
       refine ⟨hx,?_⟩
       rw[hg]
       cases d <;>simp[seenOk,hn]
   | box p cs d pin =>
     simp only[hg,opMove,Option.some.injEq] at h
     subst h
     rw[hg] at hs
     refine ⟨rfl,Goes.one H.df hst (Ext.refl _ _) hr H.dst hfr hna (fun d _ hd=>⟨rfl,?_⟩) ?_ (.inl trivial)⟩
     ·simp only[Slot.looks,List.mem_singleton] at hd
      simp only[get_cons,if_neg hd,if_neg (fun e=>hd e.symm:¬ t=d),if_true,hg]
      exact ptrR_whole hs
     ·simp only[Slot.looks,List.mem_singleton,forall_eq]
      exact ⟨hx,by rw[hg];trivial⟩
   | view k pl =>
     simp only[hg,opMove,Option.some.injEq] at h
     subst h
     rw[hg] at hs
     exact ⟨rfl,Goes.one H.df hst (Ext.refl _ _) hr H.dst hfr hna (fun d _ hd=>hs.copy (.inl ⟨_,_,rfl⟩) hd) (fun k' hk'=>hst.looks t k' (by rw[hg];exact hk')) (.inl trivial)⟩
   | ptr k pl =>
     simp only[hg,opMove,Option.some.injEq] at h
     subst h
     rw[hg] at hs
     exact ⟨rfl,Goes.one H.df hst (Ext.refl _ _) hr H.dst hfr hna (fun d _ hd=>hs.copy (.inr (.inl ⟨_,_,rfl⟩)) hd) (fun k' hk'=>hst.looks t k' (by rw[hg];exact hk')) (.inl trivial)⟩
   | clo f caps =>
     simp only[hg,opMove,Option.some.injEq] at h
     subst h
     rw[hg] at hs
     have e:(caps.map (fun c=>(c.1,c.2,get σ.env c.1))).map (fun c=>(c.1,c.2.1))=caps:=by
      rw[List.map_map];simp[Function.comp_def]
     simp only[e] at hfr ⊢
     exact ⟨trivial,Goes.one H.df hst (Ext.refl _ _) hr H.dst hfr hna (fun d _ hd=>hs.copy (.inr (.inr ⟨_,_,rfl⟩)) hd) (fun k' hk'=>hst.looks t k' (by rw[hg];exact hk')) (.inl trivial)⟩
   | tup n=>exact absurd (by rw[hg]) (hnt t _)
   | _=>simp[hg,opMove] at h
end
end Go.Desk
end
section
namespace Go.Desk
open Go
section
variable {C:Ctx} {w w':World} {a a':Act} {σ:AS} {Lt Lt':Nat→Nat→Prop} {cv cv':Nat→Value} {fp fpU:Nat→Fp} {g':Nat} {env':List (Nat × Slot)} {o:Oper}
theorem run_v {P:Program} {s:Sem Value} {v:Value} (h:s.run P w = .ok v w'):(do pure (Next.value (← s)):Sem Next).run P w = .ok (.value v) w' :=by
 simp only[Sem.run_bind,h,Result.andThen_ok,Sem.run_pure]
theorem ext_drew (h:w'=w∨w'=w.drew):Ext w w' (fun _ _=>False):=by
 rcases h with rfl | rfl
 ·exact Ext.refl _ _
 ·exact (Ext.refl w _).drew
theorem leafOut_goes (H:Pre C o w a σ Lt cv fp) {v:Value} {tt:Option T} (hx:Ext w w' (fun _ _=>False)) (hr:(execOp a.eval o).run C.P w = .ok (.value v) w') (hna:isAssign o.op=false)
  {out:Out} (h:leafOut o tt=some out) (hfr:Fresh o σ out.ups) (hl:∀ t,tt=some t→LeafRel t v) :
  out.g=none∧Goes C o a w ⟨puts out.ups σ.env,σ.g⟩:=by
 unfold leafOut at h
 cases ht:tt with
 | none=>simp[ht] at h
 | some t =>
   simp only[ht,Option.some.injEq] at h
   subst h
   exact ⟨rfl,Goes.leaf H.df H.st hx hr H.dst hfr hna (hl t ht)⟩
theorem binOp_goes (H:Pre C o w a σ Lt cv fp) {op:BinOp} {xt yt:TypeId} {X Y:Operand} (hop:o.op = .binOp op xt X Y yt) {u v:T}
  (hX:readLeaf C.E xt (resolve1 σ.env X)=some u) (hY:readLeaf C.E yt (resolve1 σ.env Y)=some v) (hb:binOk C.E xt u=true)
  {out:Out} (h:leafOut o (binT op u v)=some out) (hfr:Fresh o σ out.ups) :
  out.g=none∧Goes C o a w ⟨puts out.ups σ.env,σ.g⟩:=by
 have hx:=readLeaf_sound H.st (H.opn X (by simp[hop,Op.operands])) hX
 have hy:=readLeaf_sound H.st (H.opn Y (by simp[hop,Op.operands])) hY
 cases hr:binT op u v with
 | none=>simp[hr,leafOut] at h
 | some r =>
   obtain ⟨z,w',h1,h2,h3⟩:=binT_sound (P:=C.P) (w:=w) (X:=X) (Y:=Y) H.ty hb hr hx hy
   rw[hr] at h
   refine leafOut_goes H (ext_drew h3) (v:=z) ?_ (by simp[hop,isAssign]) h hfr (fun t ht=>by simp only[Option.some.injEq] at ht;rw[← ht];exact h2)
   simp only[execOp,hop]
   exact run_v h1
theorem unOp_goes (H:Pre C o w a σ Lt cv fp) {op:UnOp} {xt:TypeId} {X:Operand} (hop:o.op = .unOp op xt X) {u:T}
  (hX:readLeaf C.E xt (resolve1 σ.env X)=some u)
  {out:Out} (h:leafOut o (unT op u)=some out) (hfr:Fresh o σ out.ups) :
  out.g=none∧Goes C o a w ⟨puts out.ups σ.env,σ.g⟩:=by
 have hx:=readLeaf_sound H.st (H.opn X (by simp[hop,Op.operands])) hX
 cases hr:unT op u with
 | none=>simp[hr,leafOut] at h
 | some r =>
   obtain ⟨z,h1,h2⟩:=unT_sound (P:=C.P) (w:=w) hr hx
   rw[hr] at h
   refine leafOut_goes H (Ext.refl _ _) (v:=z) ?_ (by simp[hop,isAssign]) h hfr (fun t ht=>by simp only[Option.some.injEq] at ht;rw[← ht];exact h2)
   simp only[execOp,hop]
   exact run_v h1
theorem slS_row {g:Nat} {Fz:Nat→Prop} {fl:Fl} {el:List Pm} {n:Nat} {cs:List T} {v:Value} {f:Fp} (h:R w Fz Lt g [.sl fl el] [.lst n cs] [v] f) (hl:fl.live g=true) :
  (∃ ad cap,v = .slice ad n cap)∧((∃ ad cap,v = .slice ad 0 cap∧n=0∧cs=[]∧f=[]∧(fl = .own→ad=none∧cap=0)) ∨
    ∃ b off cap row e fr,v = .slice (some ⟨b,off,none⟩) n cap∧0<el.length∧w.heap[b]?=some (.cells row e fr)∧n≤cap∧off+n * el.length≤row.size ∧
     ∃ f1,R w Fz Lt g (rep n el) cs (seg row off (n * el.length)) f1∧(∀ x∈f1,x∈f) ∧
      ((fl ≠ .own∧f1=[]∧f=[])∨(fl = .own∧¬ Fz b∧(∀ j,off+n * el.length≤j→¬ Lt b j)∧off+cap * el.length≤row.size∧(∀ j,off≤j→j<off+cap * el.length→¬ (fr.1≤j∧j<fr.2)) ∧
        f=⟨b,off,off+n * el.length,off+n * el.length,off+cap * el.length⟩::f1))):=by
 cases h with
 | slE hf r =>
   cases r
   exact ⟨⟨_,_,rfl⟩,.inl ⟨_,_,rfl,rfl,rfl,rfl,hf⟩⟩
 | slS h0 hb hz hn hs hr hi r =>
   cases r
   subst hs
   exact ⟨⟨_,_,rfl⟩,.inr ⟨_,_,_,_,_,_,rfl,h0,hb,hn,hr,[],hi,by simp,.inl ⟨by simp,rfl,rfl⟩⟩⟩
 | slL h0 hb hlt hn hs hr hi r =>
   cases r
   subst hs
   exact ⟨⟨_,_,rfl⟩,.inr ⟨_,_,_,_,_,_,rfl,h0,hb,hn,hr,[],hi,by simp,.inl ⟨by simp,rfl,rfl⟩⟩⟩
 | slX hg r=>simp[Fl.live] at hl;omega
 | @slO b off n cap row e fr el cs vs' ps ts vs fp₁ fp₂ h0 hb hz hlt hn hs hr hf hi r =>
   cases r
   subst hs
   refine ⟨⟨_,_,rfl⟩,.inr ⟨_,_,_,_,_,_,rfl,h0,hb,hn,?_,fp₁,hi,by simp +contextual,.inr ⟨rfl,hz,hlt,hr,hf,by simp⟩⟩⟩
   have:=Nat.mul_le_mul_right el.length hn
   omega
theorem elemIs_sound {E:Env} (hE:TysOk C.P E) {t n:Nat} (h:elemIs E t n=true):∃ e i,C.P.underlying t=some (.slice e)∧C.P.info? e=some i∧i.size=n:=by
 unfold elemIs at h
 split at h
 ·simp at h
 rename_i d hd
 split at h
 ·rename_i e hk
  split at h
  ·simp at h
  rename_i de hde
  obtain ⟨u,hu,hkd,-⟩:=(hE t d hd).und
  unfold KdOk at hkd
  rw[hk] at hkd
  obtain ⟨i,z,h1,h2,-⟩:=(hE e de hde).info
  exact ⟨e,i,by rw[hu,hkd.1],h1,by rw[h2];simpa using h⟩
 ·simp at h
theorem strIs_sound {E:Env} (hE:TysOk C.P E) {t:Nat} (h:strIs E t=true):C.P.underlying t=some .string:=by
 unfold strIs at h
 split at h
 ·simp at h
 rename_i d hd
 split at h
 ·rename_i hk
  obtain ⟨u,hu,hkd,-⟩:=(hE t d hd).und
  unfold KdOk at hkd
  rw[hk] at hkd
  rw[hu,hkd]
 ·simp at h
theorem one_cell {v:Value} {vs:List Value} (h:CellsOf false v vs):vs=[v]:=by simpa [CellsOf] using h
theorem run_len_string {P:Program} {t:TypeId} {ty:TypeId} {s:ByteArray} (h:P.underlying t=some .string):(Builtin.len_ #[t] ty #[.string s]).run P w = .ok (goInt s.size) w:=by
 simp[Builtin.len_,run_underlying h]
theorem run_len_slice' {P:Program} {t e:TypeId} {ty:TypeId} {ad:Option Addr} {n c:Nat} (h:P.underlying t=some (.slice e)):(Builtin.len_ #[t] ty #[.slice ad n c]).run P w = .ok (goInt n) w:=by
 simp[Builtin.len_,run_underlying h]
theorem opLen_goes (H:Pre C o w a σ Lt cv fp) {X:Operand} {t ty:Nat} (hX:opndOk X) (hna:isAssign o.op=false)
  (hex:∀ v,(Builtin.len_ #[t] ty #[a.eval X]).run C.P w = .ok v w→(execOp a.eval o).run C.P w = .ok (.value v) w)
  {out:Out} (h:opLen C.E σ.g o t (resolve1 σ.env X)=some out) (hfr:Fresh o σ out.ups) :
  out.g=none∧Goes C o a w ⟨puts out.ups σ.env,σ.g⟩:=by
 unfold opLen at h
 split at h
 ·rename_i s hv
  split at h
  ·rename_i hs
   obtain ⟨vs,f,h1,h2,-⟩:=readV_sound H.st hX hv
   obtain rfl:=one_cell h1
   cases h2 with
   | leaf hl r =>
     simp only[LeafRel] at hl
     refine leafOut_goes H (Ext.refl _ _) (v:=goInt s.length) (hex _ ?_) hna h hfr (fun t ht => ?_)
     ·rw[hl,run_len_string (strIs_sound H.ty hs)];rfl
     ·simp only[Option.some.injEq] at ht;rw[← ht];rfl
  ·simp at h
 ·rename_i fl el n cs hv
  split at h
  ·rename_i hs
   obtain ⟨vs,f,h1,h2,-⟩:=readV_sound H.st hX hv
   obtain rfl:=one_cell h1
   obtain ⟨⟨ad,cap,hva⟩,-⟩:=slS_row h2 hs.2
   obtain ⟨e,i,k1,k2,k3⟩:=elemIs_sound H.ty hs.1
   refine leafOut_goes H (Ext.refl _ _) (v:=goInt n) (hex _ ?_) hna h hfr (fun t ht => ?_)
   ·rw[hva,run_len_slice' k1]
   ·simp only[Option.some.injEq] at ht;rw[← ht];rfl
  ·simp at h
 ·simp at h
theorem leaves_sound (H:StW C w a σ Lt cv fp):∀ {tys:List Nat} {xs:List Operand} {ts:List T},(∀ x∈xs,opndOk x)→leaves C.E tys (xs.map (resolve1 σ.env))=some ts →
  ts.length=xs.length∧∀ (i:Nat) (t:T) (v:Value),ts[i]?=some t→(xs.map a.eval)[i]?=some v→LeafRel t v
 | [],[],ts,_,h=>by simp[leaves] at h;subst h;simp
 | ty::tys,x::xs,ts,hx,h=>by
   simp only[List.map_cons,leaves] at h
   cases hr:readLeaf C.E ty (resolve1 σ.env x) with
   | none=>simp[hr] at h
   | some t =>
     cases hl:leaves C.E tys (xs.map (resolve1 σ.env)) with
     | none=>simp[hr,hl] at h
     | some ts' =>
       simp only[hr,hl,Option.some.injEq] at h
       subst h
       obtain ⟨h1,h2⟩:=leaves_sound H (fun y hy=>hx y (by simp[hy])) hl
       refine ⟨by simp[h1],fun i t' v ht hv => ?_⟩
       cases i with
       | zero =>
         simp at ht hv
         subst ht hv
         exact readLeaf_sound H (hx x (by simp)) hr
       | succ i=>exact h2 i t' v (by simpa using ht) (by simpa using hv)
 | [],_::_,_,_,h=>by simp[leaves] at h
 | _::_,[],_,_,h=>by simp[leaves] at h
theorem minmax_goes (H:Pre C o w a σ Lt cv fp) {m:Bool} {xs:List Operand} {tys:List Nat} {t:T} {ts:List T} (hX:∀ x∈xs,opndOk x) (hna:isAssign o.op=false)
  (hex:∀ x rest v w',xs.map a.eval=x::rest→(rest.foldlM (if m then Builtin.max2 else Builtin.min2) x).run C.P w = .ok v w'→(execOp a.eval o).run C.P w = .ok (.value v) w')
  (hl:leaves C.E tys (xs.map (resolve1 σ.env))=some (t::ts))
  {out:Out} (h:leafOut o (minmaxs m t ts)=some out) (hfr:Fresh o σ out.ups) :
  out.g=none∧Goes C o a w ⟨puts out.ups σ.env,σ.g⟩:=by
 obtain ⟨h1,h2⟩:=leaves_sound H.st hX hl
 cases hr:minmaxs m t ts with
 | none=>simp[hr,leafOut] at h
 | some r =>
   cases xs with
   | nil=>simp at h1
   | cons x xs =>
     obtain ⟨z,w',k1,k2,k3⟩:=minmaxs_sound (P:=C.P) (w:=w) (xs:=xs.map a.eval) hr (h2 0 t (a.eval x) rfl rfl) (by simp at h1;simp[h1])
      (fun i t' v ht hv=>h2 (i+1) t' v (by simpa using ht) (by simpa using hv))
     rw[hr] at h
     exact leafOut_goes H k3 (hex _ _ z w' rfl k1) hna h hfr (fun t ht=>by simp only[Option.some.injEq] at ht;rw[← ht];exact k2)
theorem opIndex_goes (H:Pre C o w a σ Lt cv fp) {X I:Operand} {t:TypeId} (hop:o.op = .index t X I)
  {out:Out} (h:opIndex C.E o t (resolve1 σ.env X) (resolve1 σ.env I) 0=some out) (hfr:Fresh o σ out.ups) :
  out.g=none∧Goes C o a w ⟨puts out.ups σ.env,σ.g⟩:=by
 unfold opIndex at h
 split at h
 ·rename_i k i hi
  split at h
  ·rename_i s hs
   split at h
   ·rename_i hc
    have h1:=readLeaf_sound H.st (H.opn I (by simp[hop,Op.operands])) hi
    have h2:=readLeaf_sound H.st (H.opn X (by simp[hop,Op.operands])) hs
    simp only[LeafRel] at h1 h2
    cases hb:s[i.toNat]? with
    | none=>simp[hb,leafOut] at h
    | some b =>
      rw[hb] at h
      refine leafOut_goes H (Ext.refl _ _) (v:=.int .u8 b.toNat) ?_ (by simp[hop,isAssign]) h hfr (fun t ht=>by simp only[Option.some.injEq] at ht;rw[← ht];rfl)
      simp only[execOp,hop]
      refine run_v ?_
      have hlt:i.toNat<s.length:=by
       rcases Nat.lt_or_ge i.toNat s.length with h' | h'
       ·exact h'
       ·simp[List.getElem?_eq_none h'] at hb
      have hbb:(⟨⟨s⟩⟩:ByteArray)[i.toNat]?=some b:=by
       rw[getElem?_pos _ _ (by simpa [ByteArray.size] using hlt)]
       rw[List.getElem?_eq_getElem hlt] at hb
       exact hb
      simp[h1,h2,Instr.index,asIntOf,run_underlying (strIs_sound H.ty hc.2),hc.1,hbb]
   ·simp at h
  ·simp at h
 ·simp at h
theorem leafTy_sound {E:Env} (hE:TysOk C.P E) {t:Nat} (h:leafTy E t=true):∃ u,C.P.underlying t=some u∧∀ e,u ≠ .slice e:=by
 unfold leafTy at h
 split at h
 ·simp at h
 rename_i d hd
 obtain ⟨u,hu,hkd,-⟩:=(hE t d hd).und
 unfold KdOk at hkd
 refine ⟨u,hu,fun e he => ?_⟩
 subst he
 split at hkd <;>simp_all
theorem bytesTy_sound {E:Env} (hE:TysOk C.P E) {t:Nat} (h:bytesTy E t=true):∃ e,C.P.underlying t=some (.slice e)∧C.P.underlying e=some (.int .u8):=by
 unfold bytesTy at h
 split at h
 ·simp at h
 rename_i d hd
 split at h
 ·rename_i e hk
  split at h
  ·simp at h
  rename_i de hde
  split at h
  ·rename_i hk2
   obtain ⟨u,hu,hkd,-⟩:=(hE t d hd).und
   obtain ⟨u2,hu2,hkd2,-⟩:=(hE e de hde).und
   unfold KdOk at hkd hkd2
   rw[hk] at hkd
   rw[hk2] at hkd2
   exact ⟨e,by rw[hu,hkd.1],by rw[hu2,hkd2]⟩
  ·simp at h
 ·simp at h
theorem opConvert_goes (H:Pre C o w a σ Lt cv fp) {X:Operand} {src dst:TypeId} (hop:o.op = .convert src dst X)
  {out:Out} (h:opConvert C.E σ.g o src dst (resolve1 σ.env X)=some out) (hfr:Fresh o σ out.ups) :
  out.g=none∧Goes C o a w ⟨puts out.ups σ.env,σ.g⟩:=by
 have hX:opndOk X:=H.opn X (by simp[hop,Op.operands])
 unfold opConvert at h
 split at h
 ·simp at h
 rename_i d hd
 obtain ⟨ud,hud,hkd,-⟩:=(H.ty dst d hd).und
 split at h
 ·rename_i u hv
  split at h
  ·rename_i hlt
   obtain ⟨vs,f,h1,h2,-⟩:=readV_sound H.st hX hv
   obtain rfl:=one_cell h1
   cases h2 with
   | leaf hl r =>
     cases hr:convT d.kd u with
     | none=>simp[hr,leafOut] at h
     | some r =>
       obtain ⟨us,k1,k2⟩:=leafTy_sound H.ty hlt
       obtain ⟨z,w',e1,e2,e3⟩:=convT_sound (P:=C.P) (w:=w) k1 k2 ⟨ud,hud,hkd⟩ hr hl
       rw[hr] at h
       refine leafOut_goes H (ext_drew e3) (v:=z) ?_ (by simp[hop,isAssign]) h hfr (fun t ht=>by simp only[Option.some.injEq] at ht;rw[← ht];exact e2)
       simp only[execOp,hop]
       exact run_v e1
  ·simp at h
 ·rename_i fl n cs hv
  split at h
  ·rename_i hlt
   split at h
   ·rename_i hk
    split at h
    ·simp at h
    rename_i bs hbs
    simp only[Bool.and_eq_true] at hlt
    obtain ⟨vs,f,h1,h2,-⟩:=readV_sound H.st hX hv
    obtain rfl:=one_cell h1
    obtain ⟨e,k1,k2⟩:=bytesTy_sound H.ty hlt.1
    unfold KdOk at hkd
    rw[hk] at hkd
    subst hkd
    refine leafOut_goes H (Ext.refl _ _) (v:=.string ⟨⟨bs⟩⟩) ?_ (by simp[hop,isAssign]) h hfr (fun t ht=>by simp only[Option.some.injEq] at ht;rw[← ht];rfl)
    simp only[execOp,hop]
    refine run_v ?_
    obtain ⟨⟨ad,cap,hva⟩,hrow⟩:=slS_row h2 hlt.2
    have hconv:(convert src dst (a.eval X)).run C.P w=(Conv.bytesToString (a.eval X)).run C.P w:=by
     rw[hva]
     cases ad <;>simp[convert,run_underlying k1,run_underlying hud,run_underlying k2]
    rw[hconv]
    rcases hrow with ⟨ad',cap',hv',rfl,rfl,-,hne⟩ | ⟨b,off,cap',row,ety,fr,hv',h0,hb,-,hsz,f1,hR,-,-⟩
    ·simp only[bytesT,Option.some.injEq] at hbs
     subst hbs
     rw[hv']
     cases ad' with
     | none=>simp[Conv.bytesToString];rfl
     | some ad =>
       simp[Conv.bytesToString,loadCells,loadCellsFrom];rfl
    ·rw[hv']
     simp only[List.length_singleton,Nat.mul_one] at hR hsz
     obtain ⟨c1,c2⟩:=bytesT_sound hbs hR
     rw[run_bytesToString hb hsz c1,c2]
   ·simp at h
  ·simp at h
 ·simp at h
end
end Go.Desk
end
section
namespace Go.Desk
open Go
section
variable {C:Ctx} {w w':World} {a a':Act} {σ:AS} {Lt Lt':Nat→Nat→Prop} {cv cv':Nat→Value} {fp fpU:Nat→Fp} {g':Nat} {env':List (Nat × Slot)} {o:Oper}
theorem cRow_last (path:List (Nat × Nat)):∀ {P V base el rv b off},(∀ b o,base=some (b,o)→∃ row e fr m,w.heap[b]?=some (.cells row e fr)∧V=seg row o m) →
  cRow w P V base path=some (el,rv,some (b,off))→∃ row e fr m,w.heap[b]?=some (.cells row e fr)∧rv=seg row off m:=by
 induction path with
 | nil =>
   intro P V base el rv b off h hc
   simp only[cRow,Option.some.injEq,Prod.mk.injEq] at hc
   obtain ⟨rfl,rfl,rfl⟩:=hc
   exact h b off rfl
 | cons ec path ih =>
   obtain ⟨e,c⟩:=ec
   intro P V base el rv b off h hc
   simp only[cRow] at hc
   split at hc <;>try simp at hc
   split at hc <;>try simp at hc
   split at hc <;>try simp at hc
   rename_i b1 off1 n1 _ _ _ row1 e1 fr1 hb
   exact ih (fun b' o' hbo=>by
    simp only[Option.some.injEq,Prod.mk.injEq] at hbo
    obtain ⟨rfl,rfl⟩:=hbo
    exact ⟨row1,e1,fr1,_,hb,rfl⟩) hc
theorem cRow_root {v:Value} {s:Slot} {vs0:List Value} {base0:Option (Nat × Nat)} {path:List (Nat × Nat)} {P el rv b off} (h:RootVals w v s vs0 base0)
  (hc:cRow w P vs0 base0 path=some (el,rv,some (b,off))):∃ row e fr m,w.heap[b]?=some (.cells row e fr)∧rv=seg row off m:=by
 refine cRow_last path (fun b' o' hb => ?_) hc
 cases s with
 | val=>simp only[RootVals] at h;rw[h.2] at hb;simp at hb
 | box p cs d pin =>
   obtain ⟨b1,off1,row,e,fr,-,h2,h3,h4⟩:=h
   rw[h4] at hb
   obtain ⟨rfl,rfl⟩:b1=b'∧off1=o' :=by simpa using hb
   exact ⟨row,e,fr,_,h2,h3⟩
 | _=>exact h.elim
theorem rowAt_snoc:∀ (path:List (Nat × Nat)) {ps:List Pm} {cs:List T} {el:List Pm} {rcs:List T} {e c:Nat} {q:List Pm} {n:Nat} {cs':List T},rowAt ps cs path=some (el,rcs)→el[c]?=some (.sl .own q)→rcs[ix el.length e c]?=some (.lst n cs') →
  (rowAt ps cs (path++[(e,c)])).isSome=true
 | [],ps,cs,el,rcs,e,c,q,n,cs',h,h1,h2=>by
   simp only[rowAt,Option.some.injEq,Prod.mk.injEq] at h
   obtain ⟨rfl,rfl⟩:=h
   simp[rowAt,h1,h2]
 | (e1,c1)::path,ps,cs,el,rcs,e,c,q,n,cs',h,h1,h2=>by
   simp only[rowAt,List.cons_append] at h ⊢
   split at h
   ·split at h
    ·exact rowAt_snoc path h h1 h2
    ·simp at h
   ·simp at h
theorem cRow_snoc (path:List (Nat × Nat)):∀ {P V base el rv b1} (ec:Nat × Nat),cRow w P V base path=some (el,rv,b1) →
  cRow w P V base (path++[ec])=cRow w el rv b1 [ec]:=by
 induction path with
 | nil =>
   intro P V base el rv b1 ec h
   simp only[cRow,Option.some.injEq,Prod.mk.injEq] at h
   obtain ⟨rfl,rfl,rfl⟩:=h
   rfl
 | cons ec1 path ih =>
   obtain ⟨e,c⟩:=ec1
   intro P V base el rv b1 ec h
   simp only[List.cons_append]
   rw[cRow] at h ⊢
   split at h <;>try simp at h
   split at h <;>try simp at h
   split at h <;>try simp at h
   simp_all
   exact ih _ _ h
theorem seg_sub {row:Array Value} {o n i m:Nat} (h:i+m≤n):((seg row o n).drop i).take m=seg row (o+i) m:=by
 apply List.ext_getElem?
 intro j
 rw[List.getElem?_take,List.getElem?_drop,seg_getElem?,seg_getElem?]
 split
 ·rw[if_pos (by omega),Nat.add_assoc]
 ·rfl
theorem seg_fits {row:Array Value} {o n i m:Nat} (h:(((seg row o n).drop i).take m).length=m) (hm:0<m):i+m≤n∧o+i+m≤row.size:=by
 simp only[seg,List.length_take,List.length_drop,Array.length_toList] at h
 omega
theorem TyOk.one {P:Program} {E:Env} {t:Nat} {d:TD} (h:TyOk P E t d) (ha:d.agg=false):d.sz=1:=by
 obtain ⟨i,z,h1,h2,h3,h4,h5,h6⟩:=h.info
 rw[ha] at h6
 simp only[Bool.false_eq_true,if_false] at h6
 rw[h6] at h5
 have hl:=h.len
 have:d.zero.length=1:=by
  simp only[constTs] at h5
  split at h5 <;>simp at h5
  rw[← h5];rfl
 have hf:=(constTs_fit (w:=default) (Fz:=fun _=>False) (Lt:=fun _ _=>False) (g:=0) (vs:=z.cells.toList) (by rw[h6];exact h5) h.fit).length_eq
 omega
theorem run_sizeOf {P:Program} {E:Env} {t:Nat} {d:TD} (h:TyOk P E t d):(sizeOf t).run P w = .ok d.sz w:=by
 obtain ⟨i,z,h1,h2,-⟩:=h.info
 simp[sizeOf,typeInfo,h1,h2]
theorem run_isAgg {P:Program} {E:Env} {t:Nat} {d:TD} (h:TyOk P E t d):(isAgg t).run P w = .ok d.agg w:=by
 obtain ⟨u,hu,-,h2⟩:=h.und
 simp only[isAgg,Sem.run_bind,run_underlying hu,Result.andThen_ok]
 cases u <;>simp[aggDesc] at h2 <;>simp[← h2]
theorem run_loadVar {P:Program} {E:Env} {t:Nat} {d:TD} (h:TyOk P E t d) {b off:Nat} {row:Array Value} {e:TypeId} {fr:Nat × Nat} (hb:w.heap[b]?=some (.cells row e fr)) (hr:off+d.sz≤row.size) :
  ∃ v,(loadVar t ⟨b,off,none⟩).run P w = .ok v w∧CellsOf d.agg v (seg row off d.sz):=by
 cases ha:d.agg with
 | true =>
   refine ⟨.agg (seg row off d.sz).toArray,?_,by simp[CellsOf]⟩
   simp[loadVar,run_isAgg h,ha,run_sizeOf h,run_loadCells hb hr]
 | false =>
   have h1:=h.one ha
   have hlt:off<row.size:=by omega
   refine ⟨row[off],?_,?_⟩
   ·simp[loadVar,run_isAgg h,ha,cell_at hb,hlt]
   ·rw[h1,seg_succ hlt]
    simp[CellsOf,seg]
theorem opLoad_goes (H:Pre C o w a σ Lt cv fp) {X:Operand} {t:TypeId} (hop:o.op = .load t X)
  {out:Out} (h:opLoad C.E o t (resolve1 σ.env X)=some out) (hfr:Fresh o σ out.ups) :
  out.g=none∧Goes C o a w ⟨puts out.ups σ.env,σ.g⟩:=by
 have hX:opndOk X:=H.opn X (by simp[hop,Op.operands])
 have hna:isAssign o.op=false:=by simp[hop,isAssign]
 unfold opLoad at h
 split at h
 ·simp at h
 rename_i d hd
 have hT:=H.ty t d hd
 have hpos:=hT.pos
 split at h
 ·rename_i k pl root hp
  obtain ⟨rfl,hk,p,cs,dd,hroot,hseen,vs0,base0,el,rv,b,off,hrv,hcr,hev⟩:=ptrOf_sound H.st hX hp
  simp only[hroot] at h
  split at h
  ·simp at h
  rename_i v hv
  have hTok:(rowAt p cs pl.path).isSome=true:=by
   unfold Desk.atPlace at hv
   split at hv
   ·simp at hv
   ·rename_i h9
    have h9:rowAt p cs pl.path=some _:=h9
    rw[h9];rfl
  obtain ⟨vs1,base1,j1,j2⟩:=(H.st.slots k).atPlace (H.st.nodup k) hroot hv
  obtain ⟨rfl,rfl⟩:=hrv.uniq j1
  obtain ⟨f',-,hR⟩:=j2 el rv _ hcr
  obtain ⟨row,e,fr,m,hb,rfl⟩:=cRow_root hrv hcr
  have hvl:v.p.length=d.sz:=by
   unfold Desk.atPlace at hv
   split at hv <;>try simp at hv
   split at hv <;>try simp at hv
   rename_i hg
   split at hv <;>simp at hv
   rw[← hv];exact (getP_eq hg).2.1
  have hva:v.agg=d.agg:=by
   unfold Desk.atPlace at hv
   split at hv <;>try simp at hv
   split at hv <;>try simp at hv
   split at hv <;>simp at hv
   rw[← hv]
  simp only[Desk.pick] at hR
  have hlen:=hR.length_eq.2
  rw[hvl] at hlen
  obtain ⟨q1,q2⟩:=seg_fits hlen hpos
  rw[seg_sub q1] at hR
  obtain ⟨x,hx1,hx2⟩:=run_loadVar (P:=C.P) hT hb q2
  have hex:(execOp a.eval o).run C.P w = .ok (.value x) w:=by
   simp only[execOp,hop]
   refine run_v ?_
   rw[hev]
   simpa [Instr.loadAt,Instr.sureAddr] using hx1
  split at h
  ·rename_i hn
   simp only[Option.some.injEq] at h
   subst h
   have:=hR.noOwn hn
   rw[this] at hR
   exact ⟨rfl,Goes.val H.df H.st (Ext.refl _ _) hex H.dst hfr hna (by rw[hva];exact hx2) hR⟩
  ·simp only[Option.some.injEq] at h
   subst h
   refine ⟨rfl,Goes.one H.df H.st (Ext.refl _ _) hex H.dst hfr hna (fun d' _ hd'=>⟨rfl,?_⟩) ?_ (.inl trivial)⟩
   ·simp only[Slot.looks,List.mem_singleton] at hd'
    simp only[get_cons,if_neg hd',if_neg (fun e=>hd' e.symm:¬ k=d'),if_true]
    intro P CS D hr hst
    rw[hroot] at hr
    simp only[Option.some.injEq,Prod.mk.injEq] at hr
    obtain ⟨rfl,rfl,rfl⟩:=hr
    refine ⟨vs0,base0,el,_,_,hrv,hcr,?_,hTok⟩
    simp only[Desk.pick]
    rw[seg_sub q1]
    exact hx2
   ·simp only[Slot.looks,List.mem_singleton,forall_eq]
    refine ⟨hk,?_⟩
    cases hgk:get σ.env k with
    | val=>rw[hgk] at hseen;exact hseen ⟨_,_,_,_,_,rfl⟩
    | box=>trivial
    | _=>rw[hgk] at hroot;simp[Slot.root] at hroot
 ·rename_i hp
  split at h
  ·rename_i t' el cs dd pin s1 hr
   split at h
   ·simp at h
   rename_i p hgp
   split at h
   ·simp at h
   rename_i c hgc
   simp only[Option.some.injEq] at h
   subst h
   have hv:readV C.E 0 (resolve1 σ.env X)=some ⟨false,[.rf .shr el],[.ref cs]⟩:=by rw[hr];rfl
   obtain ⟨vs,f,h1,h2,-⟩:=readV_sound H.st hX hv
   obtain rfl:=one_cell h1
   generalize hev:a.eval X=x at h2
   cases h2 with
   | @rfS b off row e fr _ _ vs' _ _ _ _ h0 hb hz hs hsz hi r =>
     have hi':R w C.Fz Lt σ.g (rep 1 el) cs vs' []:=by rw[rep_one];exact hi
     have e0:ix el.length 0 0=0:=ix_zero _
     obtain ⟨f',hf',hR⟩:=hi'.sub (e:=0) hgp (by rw[e0];exact hgc)
     have:f'=[]:=by
      cases f' with
      | nil=>rfl
      | cons y ys=>exact absurd (hf' y (by simp)) (by simp)
     subst this
     rw[e0] at hR
     subst hs
     have hlen:=hR.length_eq.2
     rw[(getP_eq hgp).2.1] at hlen
     obtain ⟨q1,q2⟩:=seg_fits hlen hpos
     rw[seg_sub q1] at hR
     obtain ⟨x,hx1,hx2⟩:=run_loadVar (P:=C.P) hT hb q2
     refine ⟨rfl,Goes.val H.df H.st (Ext.refl _ _) (v:=x) ?_ H.dst hfr hna hx2 hR⟩
     simp only[execOp,hop]
     refine run_v ?_
     rw[hev]
     simpa [Instr.loadAt,Instr.sureAddr] using hx1
  ·simp at h
theorem field_at {P:Program} {E:Env} {s:Nat} {d:TD} (h:TyOk P E s d) {fs:List (Nat × Nat)} (hk:d.kd = .st fs) {f off ty:Nat} (hf:fs[f]?=some (off,ty)) :
  ∃ fields:Array Field,P.underlying s=some (.struct fields)∧∃ fld:Field,fields[f]?=some fld∧fld.offset=off∧fld.type=ty:=by
 obtain ⟨u,hu,hkd,-⟩:=h.und
 unfold KdOk at hkd
 rw[hk] at hkd
 obtain ⟨fields,rfl,hfs⟩:=hkd
 refine ⟨fields,hu,?_⟩
 rw[← hfs,List.getElem?_map] at hf
 rw[Array.getElem?_toList] at hf
 cases hx:fields[f]? with
 | none=>simp[hx] at hf
 | some fld=>simp[hx] at hf;exact ⟨fld,rfl,hf⟩
theorem run_part {P:Program} {E:Env} {t:Nat} {d:TD} (h:TyOk P E t d) {cs:List Value} {off:Nat} (hl:off+d.sz≤cs.length) :
  ∃ v,(part t cs.toArray off).run P w = .ok v w∧CellsOf d.agg v ((cs.drop off).take d.sz):=by
 cases ha:d.agg with
 | true =>
   refine ⟨.agg (cs.toArray.extract off (off+d.sz)),?_,?_⟩
   ·simp[part,run_isAgg h,ha,run_sizeOf h]
   ·simp[CellsOf]
 | false =>
   have h1:=h.one ha
   have hlt:off<cs.length:=by omega
   refine ⟨cs[off],?_,?_⟩
   ·simp[part,run_isAgg h,ha,hlt]
   ·rw[h1,List.drop_eq_getElem_cons hlt,List.take_succ_cons,List.take_zero]
    simp[CellsOf]
theorem noOwns_getP {ps:List Pm}:∀ {n c:Nat} {q:List Pm},getP ps c n=some q→noOwns ps=true→noOwns q=true
 | 0,c,q,h,_=>by simp[getP] at h;subst h;rfl
 | n+1,c,q,h,hn=>by
   simp only[getP] at h
   cases hp:ps[c]? with
   | none=>simp[hp] at h
   | some p =>
     cases hr:getP ps (c+1) n with
     | none=>simp[hp,hr] at h
     | some r =>
       simp only[hp,hr,Option.some.injEq] at h
       subst h
       simp only[noOwns,Bool.and_eq_true]
       refine ⟨?_,noOwns_getP hr hn⟩
       rw[take_cons_drop hp,noOwns_append,noOwns_append] at hn
       simp[noOwns] at hn
       exact hn.2.1
theorem rowAt_cRow {w:World} (path:List (Nat × Nat)):∀ {P:List Pm} {T:List T} {V:List Value} {base el el' rcs rv b1},rowAt P T path=some (el,rcs)→cRow w P V base path=some (el',rv,b1)→el=el' :=by
 induction path with
 | nil =>
   intro P T V base el el' rcs rv b1 h h'
   simp only[rowAt,cRow,Option.some.injEq,Prod.mk.injEq] at h h'
   rw[← h.1,← h'.1]
 | cons ec path ih =>
   obtain ⟨e,c⟩:=ec
   intro P T V base el el' rcs rv b1 h h'
   rw[rowAt] at h
   rw[cRow] at h'
   split at h <;>try simp at h
   rename_i el1 hP
   split at h <;>try simp at h
   rw[hP] at h'
   simp only at h'
   split at h' <;>try simp at h'
   split at h' <;>try simp at h'
   exact ih h h'
theorem atPlace_spec {ps:List Pm} {cs:List T} {pl:Place} {v:V} (h:atPlace ps cs pl=some v) :
  ∃ el rcs,rowAt ps cs pl.path=some (el,rcs)∧getP el pl.c pl.n=some v.p∧getN rcs (ix el.length pl.e pl.c) pl.n=some v.cs∧v.agg=pl.agg:=by
 unfold atPlace at h
 split at h
 ·simp at h
 rename_i el rcs h1
 split at h
 ·simp at h
 rename_i q h2
 split at h
 ·simp at h
 rename_i c h3
 simp only[Option.some.injEq] at h
 subst h
 exact ⟨el,rcs,h1,h2,h3,rfl⟩
theorem opField_goes (H:Pre C o w a σ Lt cv fp) {X:Operand} {s:TypeId} {fi:Nat} (hop:o.op = .field s X fi)
  {out:Out} (h:opField C.E o s (resolve1 σ.env X) fi=some out) (hfr:Fresh o σ out.ups) :
  out.g=none∧Goes C o a w ⟨puts out.ups σ.env,σ.g⟩:=by
 have hX:opndOk X:=H.opn X (by simp[hop,Op.operands])
 have hna:isAssign o.op=false:=by simp[hop,isAssign]
 unfold opField at h
 split at h
 ·simp at h
 rename_i d hd
 split at h
 ·rename_i fs hk
  split at h
  ·simp at h
  rename_i off ty hf
  split at h
  ·simp at h
  rename_i d' hd'
  have hT:=H.ty ty d' hd'
  have hpos:=hT.pos
  split at h
  ·simp at h
  rename_i v hv
  split at h
  ·simp at h
  rename_i hagg
  simp only[Bool.not_eq_true,Bool.not_eq_false'] at hagg
  split at h
  ·simp at h
  rename_i p hgp
  split at h
  ·simp at h
  rename_i c hgc
  obtain ⟨vs,f0,h1,h2,-⟩:=readV_sound H.st hX hv
  rw[hagg] at h1
  simp only[CellsOf,if_true] at h1
  have hi':R w C.Fz Lt σ.g (rep 1 v.p) v.cs vs f0:=by rw[rep_one];exact h2
  have hoff:off<v.p.length:=by
   have:=(getP_eq hgp).2.2 hpos;omega
  have e0:ix v.p.length 0 off=off:=by rw[ix_eq hoff];simp
  obtain ⟨f',hf',hR⟩:=hi'.sub (e:=0) hgp (by rw[e0];exact hgc)
  rw[e0] at hR
  have hlen:off+d'.sz≤vs.length:=by
   have:=(getP_eq hgp).2.2 hpos
   rw[h2.length_eq.2];exact this
  obtain ⟨x,hx1,hx2⟩:=run_part (P:=C.P) (w:=w) hT hlen
  obtain ⟨fields,g1,fld,g2,g3,g4⟩:=field_at (H.ty s d hd) hk hf
  have hex:(execOp a.eval o).run C.P w = .ok (.value x) w:=by
   simp only[execOp,hop]
   refine run_v ?_
   rw[h1]
   simp[Instr.field,run_underlying g1,g2,asAgg,g3,g4,hx1]
  split at h
  ·rename_i hn
   simp only[Option.some.injEq] at h
   subst h
   have:=hR.noOwn hn
   rw[this] at hR
   exact ⟨rfl,Goes.val H.df H.st (Ext.refl _ _) hex H.dst hfr hna hx2 hR⟩
  ·rename_i hn
   cases X with
   | const cc =>
     simp[resolve1] at h
   | global=>simp[resolve1] at h
   | func=>simp[resolve1] at h
   | tmp t =>
     rw[resolve1_tmp] at h hv
     have hs:=H.st.slots t
     rw[eval_tmp H.st hX] at h1
     cases hg:get σ.env t with
     | val ag p0 cs0 d0 pin =>
       simp only[hg,Option.some.injEq] at h hv
       subst h
       simp only[readV,Option.some.injEq] at hv
       subst hv
       refine ⟨rfl,Goes.one H.df H.st (Ext.refl _ _) hex H.dst hfr hna (fun d1 _ hd1=>⟨rfl,?_⟩) ?_ (.inl trivial)⟩
       ·simp only[Slot.looks,List.mem_singleton] at hd1
        simp only[get_cons,if_neg hd1,if_neg (fun e=>hd1 e.symm:¬ t=d1),if_true,hg]
        intro P CS D hr hst
        simp only[Slot.root,Option.some.injEq,Prod.mk.injEq] at hr
        obtain ⟨rfl,rfl,rfl⟩:=hr
        simp only at hagg
        refine ⟨vs,none,_,vs,none,⟨by rw[hagg];simpa [CellsOf] using h1,rfl⟩,rfl,?_,rfl⟩
        simp only[Desk.pick]
        rw[e0];exact hx2
       ·simp only[Slot.looks,List.mem_singleton,forall_eq]
        refine ⟨hX,?_⟩
        rw[hg]
        have:noOwns p0=false:=by
         cases hnn:noOwns p0 with
         | false=>rfl
         | true=>exact absurd (noOwns_getP hgp hnn) hn
        cases d0 <;>simp[seenOk,this]
     | view k pl =>
       simp only[hg,Option.some.injEq] at h hv
       subst h
       simp only[readV] at hv
       cases hroot:(get σ.env k).root with
       | none=>simp[hroot] at hv
       | some pcd =>
         obtain ⟨P0,CS0,D0⟩:=pcd
         simp only[hroot] at hv
         split at hv
         ·simp at hv
         rename_i hst
         obtain ⟨el',rcs,a1,a2,a3,a4⟩:=atPlace_spec hv
         rw[hg] at hs
         obtain ⟨vs0,base0,el,rv,base,k1,k2,k3,hTok⟩:=hs.2 P0 CS0 D0 hroot (by simpa using hst)
         obtain rfl:=rowAt_cRow _ a1 k2
         refine ⟨rfl,Goes.one H.df H.st (Ext.refl _ _) hex H.dst hfr hna (fun d1 _ hd1=>⟨rfl,?_⟩) ?_ (.inl trivial)⟩
         ·simp only[Slot.looks,List.mem_singleton] at hd1
          simp only[get_cons,if_neg hd1,if_neg (fun e=>hd1 e.symm:¬ k=d1),if_true]
          intro P CS D hr hst'
          rw[hroot] at hr
          simp only[Option.some.injEq,Prod.mk.injEq] at hr
          obtain ⟨rfl,rfl,rfl⟩:=hr
          refine ⟨vs0,base0,el',rv,base,k1,k2,?_,hTok⟩
          rw[← a4,hagg] at k3
          simp only[CellsOf,if_true] at k3
          rw[h1] at k3
          have hvs:vs=Desk.pick rv el' pl:=by simpa using k3
          have l1:=(getP_eq hgp).2.2 hpos
          have l2:=(getP_eq a2).2.1
          have l3:=(getP_eq a2).2.2 (by omega)
          simp only[Desk.pick] at hvs ⊢
          rw[ix_eq (by omega)] at hvs ⊢
          rw[hvs] at hx2
          rw[List.drop_take,List.drop_drop,List.take_take] at hx2
          have:min d'.sz (pl.n - off)=d'.sz:=by omega
          rw[this] at hx2
          rw[show pl.e * el'.length+(pl.c+off)=pl.e * el'.length+pl.c+off by omega]
          exact hx2
         ·simp only[Slot.looks,List.mem_singleton,forall_eq]
          exact H.st.looks t k (by rw[hg];simp[Slot.looks])
     | _=>simp[hg,readV] at hv
 ·simp at h
end
end Go.Desk
end
section
namespace Go.Desk
open Go
section
variable {C:Ctx} {w w':World} {a a':Act} {σ:AS} {Lt Lt':Nat→Nat→Prop} {cv cv':Nat→Value} {fp fpU:Nat→Fp} {g':Nat} {env':List (Nat × Slot)} {o:Oper}
theorem seen_of_root {k:Nat} {p cs d} (hroot:(get σ.env k).root=some (p,cs,d)) (hseen:(∃ ag p' c' d' pin,get σ.env k = .val ag p' c' d' pin)→seenOk (get σ.env k)):seenOk (get σ.env k):=by
 cases hgk:get σ.env k with
 | val=>rw[hgk] at hseen;exact hseen ⟨_,_,_,_,_,rfl⟩
 | box=>trivial
 | _=>rw[hgk] at hroot;simp[Slot.root] at hroot
theorem Goes.ptr {k:Nat} {pl:Place} {v:Value} (H:Pre C o w a σ Lt cv fp) (hr:(execOp a.eval o).run C.P w = .ok (.value v) w) (hna:isAssign o.op=false)
  (hfr:Fresh o σ (dstIs o (.ptr k pl))) (hk:k<1000000) (hseen:seenOk (get σ.env k)) (hp:PtrR w (cv k) (get σ.env k) pl v) :
  Goes C o a w ⟨puts (dstIs o (.ptr k pl)) σ.env,σ.g⟩:=by
 refine Goes.one H.df H.st (Ext.refl _ _) hr H.dst hfr hna (fun d _ hd=>⟨rfl,?_⟩) (by simpa [Slot.looks] using ⟨hk,hseen⟩) (.inl trivial)
 simp only[Slot.looks,List.mem_singleton] at hd
 simp only[get_cons,if_neg hd,if_neg (fun e=>hd e.symm:¬ k=d),if_true]
 exact hp
theorem dirtyTop_root:∀ {d:Dirt},dirtyTop d=false→dirtyRoot d=false
 | [],_=>rfl
 | (q,c,m)::d,h=>by
   cases q with
   | nil=>simp[dirtyTop] at h
   | cons=>exact dirtyTop_root (d:=d) h
theorem staleP_path {d:Dirt} {pl pl':Place} (h:pl'.path=pl.path):staleP d pl'=staleP d pl:=by
 unfold staleP;rw[h]
theorem run_fieldAt {P:Program} {E:Env} {s:Nat} {d d':TD} (h:TyOk P E s d) {fs:List (Nat × Nat)} (hk:d.kd = .st fs) {f off ty:Nat} (hf:fs[f]?=some (off,ty)) (h':TyOk P E ty d') {b i:Nat} :
  (Instr.fieldAt s (.pointer (some ⟨b,i,none⟩)) f).run P w = .ok (.pointer (some ⟨b,i+off,none⟩)) w:=by
 obtain ⟨fields,g1,fld,g2,g3,g4⟩:=field_at h hk hf
 have hpos:=h'.pos
 have hne:¬ d'.sz=0:=by omega
 simp only[Instr.fieldAt,Sem.run_bind,run_underlying g1,Result.andThen_ok,g2,Instr.sureAddr,Sem.run_pure,fieldPlace,g4,run_sizeOf h',hne,if_false,g3,Addr.add_lit]
theorem opFieldAddr_goes (H:Pre C o w a σ Lt cv fp) {X:Operand} {s:TypeId} {fi:Nat} (hop:o.op = .fieldAddr s X fi)
  {out:Out} (h:opFieldAddr C.E o s (resolve1 σ.env X) fi=some out) (hfr:Fresh o σ out.ups) :
  out.g=none∧Goes C o a w ⟨puts out.ups σ.env,σ.g⟩:=by
 have hX:opndOk X:=H.opn X (by simp[hop,Op.operands])
 have hna:isAssign o.op=false:=by simp[hop,isAssign]
 unfold opFieldAddr at h
 split at h
 ·simp at h
 rename_i d hd
 split at h
 ·rename_i fs hk
  split at h
  ·simp at h
  rename_i off ty hf
  split at h
  ·simp at h
  rename_i d' hd'
  have hT:=H.ty ty d' hd'
  have hpos:=hT.pos
  split at h
  ·rename_i k pl root hp
   obtain ⟨rfl,hk',p,cs,dd,hroot,hseen,vs0,base0,el,rv,b,i,hrv,hcr,hev⟩:=ptrOf_sound H.st hX hp
   simp only[hroot] at h
   split at h
   ·simp at h
   rename_i el' rcs hra
   have hTok:(rowAt p cs pl.path).isSome=true:=by rw[hra];rfl
   obtain rfl:=rowAt_cRow _ hra hcr
   split at h
   ·rename_i hle
    simp only[Option.some.injEq] at h
    subst h
    refine ⟨rfl,Goes.ptr H (v:=.pointer (some ⟨b,i+ix el'.length pl.e pl.c+off,none⟩)) ?_ hna hfr hk' (seen_of_root hroot hseen) ?_⟩
    ·simp only[execOp,hop]
     refine run_v ?_
     rw[hev]
     exact run_fieldAt (H.ty s d hd) hk hf hT
    ·intro P CS D hr hst
     rw[hroot] at hr
     simp only[Option.some.injEq,Prod.mk.injEq] at hr
     obtain ⟨rfl,rfl,rfl⟩:=hr
     refine ⟨vs0,base0,el',rv,b,i,hrv,hcr,?_,hTok⟩
     simp only
     rw[ix_eq (by omega),ix_eq (by omega)]
     simp only[Value.pointer.injEq,Option.some.injEq,Addr.mk.injEq,and_true,true_and]
     omega
   ·simp at h
  ·split at h
   ·rename_i el cs dd pin s1 hr
    split at h
    ·simp at h
    rename_i p hgp
    split at h
    ·simp at h
    rename_i c hgc
    simp only[Option.some.injEq] at h
    subst h
    have hv:readV C.E 0 (resolve1 σ.env X)=some ⟨false,[.rf .shr el],[.ref cs]⟩:=by rw[hr];rfl
    obtain ⟨vs,f,h1,h2,-⟩:=readV_sound H.st hX hv
    obtain rfl:=one_cell h1
    generalize hev:a.eval X=x at h2
    cases h2 with
    | @rfS b i row e fr _ _ vs' _ _ _ _ h0 hb hz hs hsz hi r =>
      have hi':R w C.Fz Lt σ.g (rep 1 el) cs vs' []:=by rw[rep_one];exact hi
      have l1:=(getP_eq hgp).2.2 hpos
      have e0:ix el.length 0 off=off:=by rw[ix_eq (by omega)];simp
      obtain ⟨f',hf',hR⟩:=hi'.sub (e:=0) hgp (by rw[e0];exact hgc)
      have:f'=[]:=by
       cases f' with
       | nil=>rfl
       | cons y ys=>exact absurd (hf' y (by simp)) (by simp)
      subst this
      rw[e0] at hR
      subst hs
      have lp:=(getP_eq hgp).2.1
      rw[seg_sub (by omega)] at hR
      refine ⟨rfl,Goes.val H.df H.st (Ext.refl _ _) (v:=.pointer (some ⟨b,i+off,none⟩)) ?_ H.dst hfr hna (vs:=[_]) (by simp[CellsOf]) (R.rfS (off:=i+off) (row:=row) (by omega) hb hz (by rw[lp]) (by omega) hR .nil)⟩
      simp only[execOp,hop]
      refine run_v ?_
      rw[hev]
      exact run_fieldAt (H.ty s d hd) hk hf hT
   ·simp at h
 ·simp at h
theorem opNilCheck_goes (H:Pre C o w a σ Lt cv fp) {X:Operand} (hop:o.op = .nilCheck X)
  {out:Out} (h:opNilCheck o (resolve1 σ.env X)=some out) (hfr:Fresh o σ out.ups) :
  out.g=none∧Goes C o a w ⟨puts out.ups σ.env,σ.g⟩:=by
 have hX:opndOk X:=H.opn X (by simp[hop,Op.operands])
 have hna:isAssign o.op=false:=by simp[hop,isAssign]
 unfold opNilCheck at h
 split at h
 ·rename_i k pl root hp
  obtain ⟨rfl,hk',p,cs,dd,hroot,hseen,vs0,base0,el,rv,b,i,hrv,hcr,hev,hTok⟩:=ptrOf_soundT H.st hX hp
  simp only[Option.some.injEq] at h
  subst h
  refine ⟨rfl,Goes.ptr H (v:=a.eval X) ?_ hna hfr hk' (seen_of_root hroot hseen) ?_⟩
  ·simp only[execOp,hop,hev];rfl
  ·intro P CS D hr hst
   rw[hroot] at hr
   simp only[Option.some.injEq,Prod.mk.injEq] at hr
   obtain ⟨rfl,rfl,rfl⟩:=hr
   exact ⟨vs0,base0,el,rv,b,i,hrv,hcr,hev,hTok⟩
 ·split at h
  ·rename_i el cs dd pin s1 hr
   simp only[Option.some.injEq] at h
   subst h
   have hv:readV C.E 0 (resolve1 σ.env X)=some ⟨false,[.rf .shr el],[.ref cs]⟩:=by rw[hr];rfl
   obtain ⟨vs,f,h1,h2,-⟩:=readV_sound H.st hX hv
   obtain rfl:=one_cell h1
   generalize hev:a.eval X=x at h2
   have h2' :=h2
   cases h2 with
   | @rfS b i row e fr _ _ vs' _ _ _ _ h0 hb hz hs hsz hi r =>
     cases r
     refine ⟨rfl,Goes.val H.df H.st (Ext.refl _ _) (v:=.pointer (some ⟨b,i,none⟩)) ?_ H.dst hfr hna (vs:=[_]) (by simp[CellsOf]) h2'⟩
     simp only[execOp,hop,hev];rfl
  ·simp at h
theorem run_indexAt {P:Program} {t e:TypeId} {i:TypeInfo} (h1:P.underlying t=some (.slice e)) (h2:P.info? e=some i) {b off n cap j:Nat} {k:IntKind} {x:Int} (hj:x=j) (hlt:j<n) :
  (Instr.indexAt t (.slice (some ⟨b,off,none⟩) n cap) (.int k x)).run P w = .ok (.pointer (some ⟨b,off+j * i.size,none⟩)) w:=by
 subst hj
 have c:(0:Int)≤(j:Int)∧(j:Int)<(n:Int):=by omega
 simp[Instr.indexAt,asIntOf,run_underlying h1,sizeOf,typeInfo,h2,Addr.add_lit]
 intro hh
 omega
theorem rep_range {m l n:Nat} {P:List Pm} (h:l+n≤m):((rep m P).drop (l * P.length)).take (n * P.length)=rep n P:=by
 obtain ⟨r,rfl⟩:=Nat.exists_eq_add_of_le h
 rw[rep_add,rep_add,List.append_assoc,List.drop_append_of_le_length (by rw[rep_length];exact Nat.le_refl _)]
 rw[show l * P.length=(rep l P).length by rw[rep_length],List.drop_length,List.nil_append]
 rw[List.take_append_of_le_length (by rw[rep_length];exact Nat.le_refl _)]
 rw[show n * P.length=(rep n P).length by rw[rep_length],List.take_length]
theorem ix_mul (n e:Nat):ix n e 0=e * n:=by
 unfold ix;split <;>simp
theorem opIndexAddr_goes (H:Pre C o w a σ Lt cv fp) {X I:Operand} {t:TypeId} (hop:o.op = .indexAddr t X I)
  {out:Out} (h:opIndexAddr C.E σ.g o t (resolve1 σ.env X) (resolve1 σ.env I) 0=some out) (hfr:Fresh o σ out.ups) :
  out.g=none∧Goes C o a w ⟨puts out.ups σ.env,σ.g⟩:=by
 have hX:opndOk X:=H.opn X (by simp[hop,Op.operands])
 have hI:opndOk I:=H.opn I (by simp[hop,Op.operands])
 have hna:isAssign o.op=false:=by simp[hop,isAssign]
 unfold opIndexAddr at h
 split at h
 ·rename_i k i hi
  have hiv:=readLeaf_sound H.st hI hi
  simp only[LeafRel] at hiv
  split at h
  ·rename_i fl el n cs hv
   split at h
   ·rename_i hc
    obtain ⟨c1,c2,c3,c4⟩:=hc
    obtain ⟨e,inf,t1,t2,t3⟩:=elemIs_sound H.ty c3
    have hi':i=(i.toNat:Int):=by omega
    have hin:i.toNat<n:=by omega
    obtain ⟨vs,f,h1,h2,-⟩:=readV_sound H.st hX hv
    obtain rfl:=one_cell h1
    have hsub:∀ {V:List Value} {f1},R w C.Fz Lt σ.g (rep n el) cs V f1→∀ c,getN cs (ix el.length i.toNat 0) el.length=some c→∃ f',(∀ x∈f',x∈f1)∧R w C.Fz Lt σ.g el c ((V.drop (i.toNat * el.length)).take el.length) f' :=by
     intro V f1 hR c hc
     have:=hR.sub (e:=i.toNat) (c:=0) (n:=el.length) (p:=el) (by
      have:∀ (ps qs:List Pm),getP (ps++qs) ps.length qs.length=some qs:=by
       intro ps qs
       induction qs generalizing ps with
       | nil=>rfl
       | cons q qs ih =>
         simp only[List.length_cons,getP]
         rw[List.getElem?_append_right (Nat.le_refl _)]
         simp only[Nat.sub_self,List.getElem?_cons_zero]
         have:=ih (ps++[q])
         simp only[List.append_assoc,List.singleton_append,List.length_append,List.length_singleton] at this
         rw[this]
      simpa using this [] el) hc
     rw[ix_mul] at this
     exact this
    have hexec:∀ {b off cap},a.eval X = .slice (some ⟨b,off,none⟩) n cap→(execOp a.eval o).run C.P w = .ok (.value (.pointer (some ⟨b,off+i.toNat * el.length,none⟩))) w:=by
     intro b off cap hev
     simp only[execOp,hop]
     refine run_v ?_
     rw[hev,hiv,← t3]
     exact run_indexAt t1 t2 hi' hin
    cases fl with
    | own =>
      simp only at h
      have hpt:∀ k pl,seenOk (get σ.env k)→k<1000000→(∀ P CS D,(get σ.env k).root=some (P,CS,D)→staleP D pl=false →
        ∃ vs0 base0 el1 rv base,RootVals w (cv k) (get σ.env k) vs0 base0∧cRow w P vs0 base0 (pl.path)=some (el1,rv,base)∧el1[pl.c]?=some (.sl .own el)∧rv[ix el1.length pl.e pl.c]?=some (a.eval X)∧(rowAt P CS (pl.path++[(pl.e,pl.c)])).isSome=true) →
        Fresh o σ (dstIs o (.ptr k ⟨pl.path++[(pl.e,pl.c)],i.toNat,0,el.length,false⟩)) →
        Goes C o a w ⟨puts (dstIs o (.ptr k ⟨pl.path++[(pl.e,pl.c)],i.toNat,0,el.length,false⟩)) σ.env,σ.g⟩:=by
       intro k pl hs hk hr hfr
       obtain ⟨-,hrow⟩:=slS_row h2 c4
       rcases hrow with ⟨_,_,_,hn0,_⟩ | ⟨b,off,cap,row,ety,fr,hva,hl0,hb,-,-,-⟩
       ·omega
       refine Goes.ptr H (hexec hva) hna hfr hk hs ?_
       intro P CS D hroot hst
       have hst':staleP D pl=false:=by
        unfold staleP at hst ⊢
        cases hpp:pl.path with
        | nil =>
          simp only[hpp,List.nil_append] at hst
          exact dirtyTop_root hst
        | cons z zs =>
          simp only[hpp,List.cons_append] at hst
          cases zs with
          | nil =>
            simp only[List.nil_append] at hst
            cases D with
            | nil=>rfl
            | cons=>simp at hst
          | cons=>simp only[List.cons_append] at hst;exact hst
       obtain ⟨vs0,base0,el1,rv,base,r1,r2,r3,r4,r5⟩:=hr P CS D hroot hst'
       refine ⟨vs0,base0,el,seg row off (n * el.length),b,off,r1,?_,?_,r5⟩
       ·rw[cRow_snoc _ _ r2]
        simp only[cRow,r3,r4,hva,hb]
       ·simp[ix_mul]
      cases X with
      | const c=>simp[resolve1] at h
      | global=>simp[resolve1] at h
      | func=>simp[resolve1] at h
      | tmp tx =>
        rw[resolve1_tmp] at h hv
        have hs:=H.st.slots tx
        rw[eval_tmp H.st hX] at hpt h2
        cases hg:get σ.env tx with
        | val ag p0 cs0 d0 pin =>
          simp only[hg,Option.some.injEq] at h hv
          subst h
          simp only[readV,Option.some.injEq,V.mk.injEq] at hv
          obtain ⟨rfl,rfl,rfl⟩:=hv
          refine ⟨rfl,hpt tx ⟨[],0,0,1,false⟩ ?_ hX ?_ hfr⟩
          ·rw[hg];cases d0 <;>simp[seenOk,noOwns,Pm.noOwn]
          ·intro P CS D hroot hst
           rw[hg] at hroot
           simp only[Slot.root,Option.some.injEq,Prod.mk.injEq] at hroot
           obtain ⟨rfl,rfl,rfl⟩:=hroot
           refine ⟨[cv tx],none,_,_,none,?_,rfl,rfl,rfl,rfl⟩
           rw[hg];exact ⟨by simp[CellsOf],rfl⟩
        | view k pl =>
          simp only[hg,Option.some.injEq] at h hv
          subst h
          simp only[readV] at hv
          cases hroot:(get σ.env k).root with
          | none=>simp[hroot] at hv
          | some pcd =>
            obtain ⟨P0,CS0,D0⟩:=pcd
            simp only[hroot] at hv
            split at hv
            ·simp at hv
            rename_i hst0
            obtain ⟨el',rcs,a1,a2,a3,a4⟩:=atPlace_spec hv
            rw[hg] at hs
            have hlk:=H.st.looks tx k (by rw[hg];simp[Slot.looks])
            refine ⟨rfl,hpt k pl hlk.2 hlk.1 ?_ hfr⟩
            intro P CS D hr hst
            rw[hroot] at hr
            simp only[Option.some.injEq,Prod.mk.injEq] at hr
            obtain ⟨rfl,rfl,rfl⟩:=hr
            obtain ⟨vs0,base0,el1,rv,base,k1,k2,k3,-⟩:=hs.2 P0 CS0 D0 hroot (by simpa using hst0)
            obtain rfl:=rowAt_cRow _ a1 k2
            refine ⟨vs0,base0,el',rv,base,k1,k2,?_,?_,?_⟩
            ·obtain ⟨b1,b2,b3⟩:=getP_eq a2
             simp only[List.length_singleton] at b2
             rw[← b2] at b1
             have:=congrArg (fun l=>l[0]?) b1
             simpa [List.getElem?_take,List.getElem?_drop] using this.symm
            ·simp only at a4
             rw[← a4] at k3
             have k4:=one_cell k3
             obtain ⟨-,b2,-⟩:=getP_eq a2
             simp only[List.length_singleton] at b2
             have:=congrArg (fun l=>l[0]?) k4
             simp only[Desk.pick,← b2] at this
             simpa [List.getElem?_take,List.getElem?_drop] using this
            ·obtain ⟨b1,b2,b3⟩:=getP_eq a2
             obtain ⟨c1,c2,-⟩:=getN_eq a3
             simp only[List.length_singleton] at b2 c2
             rw[← b2] at b1 c1
             have h1:=congrArg (fun l=>l[0]?) b1
             have h2:=congrArg (fun l=>l[0]?) c1
             exact rowAt_snoc pl.path a1 (by simpa [List.getElem?_take,List.getElem?_drop] using h1.symm) (by simpa [List.getElem?_take,List.getElem?_drop] using h2.symm)
        | _=>simp[hg,readV] at hv
    | shr =>
      simp only at h
      split at h
      ·simp at h
      rename_i c hgc
      simp only[Option.some.injEq] at h
      subst h
      generalize hev:a.eval X=x at h2
      cases h2 with
      | slE hf r=>omega
      | @slS b off _ cap row ety fr _ _ vs' _ _ _ _ h0 hb hz hn hs hr hi2 r =>
        obtain ⟨f',hf',hR⟩:=hsub hi2 c hgc
        have:f'=[]:=by
         cases f' with
         | nil=>rfl
         | cons y ys=>exact absurd (hf' y (by simp)) (by simp)
        subst this
        subst hs
        have hm:i.toNat * el.length+el.length≤n * el.length:=by
         rw[← Nat.succ_mul];exact Nat.mul_le_mul_right _ hin
        rw[seg_sub hm] at hR
        exact ⟨rfl,Goes.val H.df H.st (Ext.refl _ _) (hexec hev) H.dst hfr hna (vs:=[_]) (by simp[CellsOf]) (.rfS h0 hb hz rfl (by omega) hR .nil)⟩
    | lent g1 =>
      simp only at h
      split at h
      ·simp at h
      rename_i c hgc
      simp only[Option.some.injEq] at h
      subst h
      generalize hev:a.eval X=x at h2
      cases h2 with
      | slE hf r=>omega
      | @slL b off _ cap row ety fr _ _ vs' _ _ _ _ h0 hb hlt hn hs hr hi2 r =>
        obtain ⟨f',hf',hR⟩:=hsub hi2 c hgc
        have:f'=[]:=by
         cases f' with
         | nil=>rfl
         | cons y ys=>exact absurd (hf' y (by simp)) (by simp)
        subst this
        subst hs
        have hm:i.toNat * el.length+el.length≤n * el.length:=by
         rw[← Nat.succ_mul];exact Nat.mul_le_mul_right _ hin
        rw[seg_sub hm] at hR
        exact ⟨rfl,Goes.val H.df H.st (Ext.refl _ _) (hexec hev) H.dst hfr hna (vs:=[_]) (by simp[CellsOf]) (.rfL h0 hb (fun j x y=>hlt j (by omega) (by omega)) rfl (by omega) hR .nil)⟩
      | slX hg r=>simp[Fl.live] at c4;omega
   ·simp at h
  ·simp at h
 ·simp at h
end
end Go.Desk
end
section
namespace Go.Desk
open Go
section
variable {C:Ctx} {w w':World} {a a':Act} {σ:AS} {Lt Lt':Nat→Nat→Prop} {cv cv':Nat→Value} {fp fpU:Nat→Fp} {g g':Nat} {env':List (Nat × Slot)} {o:Oper} {Fz:Nat→Prop}
theorem R.feL {ps ts vs f} (h:R w Fz Lt g ps ts vs f):∀ x∈f,x.l=0∨x.l=x.hi:=by
 induction h with
 | nil=>simp
 | slO h0 hb hz hl hn hs hr hf hi _ ih1 ih2 =>
   intro f hf'
   simp only[List.cons_append,List.mem_cons,List.mem_append] at hf'
   rcases hf' with rfl | hf' | hf'
   ·exact .inr rfl
   ·exact ih1 f hf'
   ·exact ih2 f hf'
 | rfO h0 hb hz hl hs hr hf hi _ ih1 ih2 =>
   intro f hf'
   simp only[List.cons_append,List.mem_cons,List.mem_append] at hf'
   rcases hf' with rfl | hf' | hf'
   ·exact .inl rfl
   ·exact ih1 f hf'
   ·exact ih2 f hf'
 | leaf _ _ ih=>exact ih
 | dead _ ih=>exact ih
 | slE _ _ ih=>exact ih
 | slS _ _ _ _ _ _ _ _ _ ih=>exact ih
 | slL _ _ _ _ _ _ _ _ _ ih=>exact ih
 | slX _ _ ih=>exact ih
 | slH _ ih=>exact ih
 | rfS _ _ _ _ _ _ _ _ ih=>exact ih
 | rfL _ _ _ _ _ _ _ _ ih=>exact ih
 | rfX _ _ ih=>exact ih
 | fnv _ _ _ ih=>exact ih
theorem SlotR.feL {env:List (Nat × Slot)} {k:Nat} {s:Slot} {f:Fp} (h:SlotR C w Lt g cv env k f s) {x:Fe} (hx:x∈f):x.l=0∨x.l=x.hi:=by
 cases s with
 | val=>obtain ⟨vs,-,h2,-⟩:=h;exact h2.feL x hx
 | box=>exact h.1.feL x hx
 | dead=>simp only[SlotR] at h;subst h;simp at hx
 | gone=>simp only[SlotR] at h;subst h;simp at hx
 | _=>obtain ⟨rfl,-⟩:=h;simp at hx
def Lend (fp:Nat→Fp) (b j:Nat):Prop:=∃ k,∃ x∈fp k,x.b=b∧x.l≠0∧x.lo≤j∧j<x.hi
theorem nodup_uniq {f:Fp} (h:(f.map Fe.b).Nodup) {x y:Fe} (hx:x∈f) (hy:y∈f) (e:x.b=y.b):x=y:=by
 induction f with
 | nil=>simp at hx
 | cons z f ih =>
   simp only[List.map_cons,List.nodup_cons,List.mem_map,not_exists,not_and] at h
   rcases List.mem_cons.1 hx with rfl | hx' <;>rcases List.mem_cons.1 hy with rfl | hy'
   ·rfl
   ·exact absurd e.symm (h.1 y hy')
   ·exact absurd e (h.1 x hx')
   ·exact ih h.2 hx' hy'
theorem StW.same (h:StW C w a σ Lt cv fp) {j k:Nat} {x y:Fe} (hx:x∈fp j) (hy:y∈fp k) (e:x.b=y.b):j=k∧x=y:=by
 by_cases hjk:j=k
 ·subst hjk;exact ⟨rfl,nodup_uniq (h.nodup j) hx hy e⟩
 ·exact absurd e (h.disj j k hjk x hx y hy)
theorem StW.notLend (h:StW C w a σ Lt cv fp) {k:Nat} {x:Fe} (hx:x∈fp k) {j:Nat} (hj:x.l≤j):¬ Lend fp x.b j:=by
 rintro ⟨k',y,hy,e,hl,h1,h2⟩
 obtain ⟨rfl,rfl⟩:=h.same hy hx e
 rcases (h.slots k').feL hy with h3 | h3
 ·exact hl h3
 ·omega
theorem StW.lendAll (h:StW C w a σ Lt cv fp):StW C w a σ (fun b j=>Lt b j∨Lend fp b j) cv fp:=by
 have hx:Ext w w (fun _ _=>False):=Ext.refl _ _
 refine h.step (W:=fun _ _=>False) (env' :=σ.env) hx (by simp) (.inl ⟨rfl,fun _ _ h => .inl h,by simp⟩) h.tmps h.size (fun k => .inl ⟨rfl,rfl,rfl,fun _ _ _ _ _=>rfl,fun x hx'=>⟨by simp,fun j hj => ?_⟩,fun k' hk'=>⟨KeepsLooks.same (h.slots k') hx (by simp),(h.looks k k' hk').2⟩⟩) h.disj ?_
 ·rintro (h1 | h1)
  ·exact (h.slots k).noLt hx' j hj h1
  ·exact h.notLend hx' hj h1
 ·rintro b j (h1 | ⟨k,x,hx',rfl,-⟩)
  ·exact h.lt b j h1
  ·exact ((h.slots k).inHeap hx').1
theorem Pre.lendAll (H:Pre C o w a σ Lt cv fp):Pre C o w a σ (fun b j=>Lt b j∨Lend fp b j) cv fp:=⟨H.st.lendAll,H.df,H.ty,H.dst,H.opn⟩
theorem bound_sound (h:StW C w a σ Lt cv fp) {ty:Nat} {d n:Int} {x:Option Operand} (hx:∀ y,x=some y→opndOk y) (hb:bound C.E ty d (x.map (resolve1 σ.env))=some n) :
  (x=none∧n=d)∨∃ y k,x=some y∧a.eval y = .int k n:=by
 cases x with
 | none=>simp[bound] at hb;exact .inl ⟨rfl,hb.symm⟩
 | some y =>
   simp only[Option.map_some,bound] at hb
   split at hb
   ·rename_i k m hl
    simp only[Option.some.injEq] at hb
    subst hb
    have:=readLeaf_sound h (hx y rfl) hl
    simp only[LeafRel] at this
    exact .inr ⟨y,k,rfl,this⟩
   ·simp at hb
theorem run_sliceBound {P:Program} {k:IntKind} {n:Int} {m:Nat} {code:BoundsCode} (h0:0≤n) (h1:n≤m):(Instr.sliceBound (.int k n) m code).run P w = .ok n.toNat w:=by
 simp[Instr.sliceBound,asIntOf,h0,h1]
theorem run_sliceBounds {P:Program} {isS:Bool} {len cap:Nat} {lo hi:Option Value} {l h:Int} (hl:(lo=none∧l=0)∨∃ k,lo=some (.int k l)) (hh:(hi=none∧h=len)∨∃ k,hi=some (.int k h))
  (h0:0≤l) (h1:l≤h) (h2:h≤len) (h3:len≤cap):(Instr.sliceBounds isS len cap lo hi none).run P w = .ok (l.toNat,h.toNat,cap) w:=by
 have a1:0≤h:=by omega
 have a2:h≤(cap:Int):=by omega
 have a3:l≤((h.toNat:Nat):Int):=by omega
 rcases hh with ⟨rfl,rfl⟩ | ⟨k,rfl⟩
 ·rcases hl with ⟨rfl,rfl⟩ | ⟨k,rfl⟩
  ·simp[Instr.sliceBounds]
  ·simp only[Instr.sliceBounds,Sem.run_bind,Sem.run_pure,Result.andThen_ok,Int.toNat_natCast]
   rw[run_sliceBound h0 h1];rfl
 ·rcases hl with ⟨rfl,rfl⟩ | ⟨k',rfl⟩
  ·simp only[Instr.sliceBounds,Sem.run_bind,Sem.run_pure,Result.andThen_ok]
   rw[run_sliceBound a1 a2];rfl
  ·simp only[Instr.sliceBounds,Sem.run_bind,Sem.run_pure,Result.andThen_ok]
   rw[run_sliceBound a1 a2]
   simp only[Result.andThen_ok]
   rw[run_sliceBound h0 a3];rfl
theorem Goes.val1 {σ:AS} {v:Value} {p:List Pm} {cs:List T} (hdf:a.defers=[]) (h:StW C w a σ Lt cv fp) (hx:Ext w w' (fun _ _=>False))
  (hr:(execOp a.eval o).run C.P w = .ok (.value v) w')
  (hd:∀ d,o.dst=some d→d<a.tmps.size)
  (hfr:Fresh o σ (dstIs o (.val false p cs [] 0))) (hna:isAssign o.op=false)
  (hR:R w' C.Fz Lt σ.g p cs [v] []) :
  Goes C o a w ⟨puts (dstIs o (.val false p cs [] 0)) σ.env,σ.g⟩ :=
 Goes.val hdf h hx hr hd hfr hna (vs:=[v]) (by simp[CellsOf]) hR
theorem opSlice_goes (H:Pre C o w a σ Lt cv fp) {X:Operand} {lo hi:Option Operand} {t:TypeId} (hop:o.op = .slice t X lo hi none)
  {out:Out} (h:opSlice C.E o t (resolve1 σ.env X) (lo.map (resolve1 σ.env)) (hi.map (resolve1 σ.env)) 0 σ.g=some out) (hfr:Fresh o σ out.ups) :
  out.g=none∧Goes C o a w ⟨puts out.ups σ.env,σ.g⟩:=by
 have hX:opndOk X:=H.opn X (by simp[hop,Op.operands])
 have hlo:∀ y,lo=some y→opndOk y:=fun y hy=>H.opn y (by simp[hop,Op.operands,hy])
 have hhi:∀ y,hi=some y→opndOk y:=fun y hy=>H.opn y (by simp[hop,Op.operands,hy])
 have hna:isAssign o.op=false:=by simp[hop,isAssign]
 unfold opSlice at h
 split at h
 ·rename_i s hv
  split at h
  ·rename_i l hh hl1 hh1
   split at h
   ·rename_i hc
    obtain ⟨c1,c2,c3,c4⟩:=hc
    simp only[Option.some.injEq] at h
    subst h
    have b1:=bound_sound H.st hlo hl1
    have b2:=bound_sound H.st hhi hh1
    obtain ⟨vs,f,h1,h2,-⟩:=readV_sound H.st hX hv
    obtain rfl:=one_cell h1
    cases h2 with
    | leaf hl r =>
      simp only[LeafRel] at hl
      refine ⟨rfl,Goes.leaf H.df H.st (Ext.refl _ _) (v:=.string ⟨⟨(s.drop l.toNat).take (hh.toNat - l.toNat)⟩⟩) ?_ H.dst hfr hna rfl⟩
      simp only[execOp,hop]
      refine run_v ?_
      have hsz:(⟨⟨s⟩⟩:ByteArray).size=s.length:=rfl
      have:=run_sliceBounds (P:=C.P) (w:=w) (isS:=false) (len:=s.length) (cap:=s.length) (lo:=lo.map a.eval) (hi:=hi.map a.eval) (l:=l) (h:=hh)
       (b1.imp (fun x=>⟨by simp[x.1],x.2⟩) (fun ⟨y,k,x1,x2⟩=>⟨k,by simp[x1,x2]⟩)) (b2.imp (fun x=>⟨by simp[x.1],x.2⟩) (fun ⟨y,k,x1,x2⟩=>⟨k,by simp[x1,x2]⟩)) c1 c2 c3 (Nat.le_refl _)
      simp only[Instr.sliceAt,Sem.run_bind,run_underlying (strIs_sound H.ty c4),Result.andThen_ok,Instr.slice,hl,Option.map_none,Option.isSome_none,Bool.false_eq_true,if_false,Sem.run_pure,hsz,this]
      congr 2
      ext1
      simp only[ByteArray.data_extract]
      apply Array.ext'
      simp
   ·simp at h
  ·simp at h
 ·rename_i fl el n cs hv
  split at h
  ·rename_i l hh hl1 hh1
   split at h
   ·rename_i hc
    obtain ⟨c1,c2,c3,c4,c5⟩:=hc
    have b1:=bound_sound H.st hlo hl1
    have b2:=bound_sound H.st hhi hh1
    obtain ⟨e,inf,t1,t2,t3⟩:=elemIs_sound H.ty c4
    have hexec:∀ {ad cap},a.eval X = .slice ad n cap→n≤cap→(execOp a.eval o).run C.P w = .ok (.value (.slice (if cap=l.toNat then ad else ad.map (·.add (l.toNat * el.length))) (hh.toNat - l.toNat) (cap - l.toNat))) w:=by
     intro ad cap hev hcap
     simp only[execOp,hop]
     refine run_v ?_
     have:=run_sliceBounds (P:=C.P) (w:=w) (isS:=true) (len:=n) (cap:=cap) (lo:=lo.map a.eval) (hi:=hi.map a.eval) (l:=l) (h:=hh)
      (b1.imp (fun x=>⟨by simp[x.1],x.2⟩) (fun ⟨y,k,x1,x2⟩=>⟨k,by simp[x1,x2]⟩)) (b2.imp (fun x=>⟨by simp[x.1],x.2⟩) (fun ⟨y,k,x1,x2⟩=>⟨k,by simp[x1,x2]⟩)) c1 c2 c3 hcap
     simp only[Instr.sliceAt,Sem.run_bind,run_underlying t1,Result.andThen_ok,Instr.slice,hev,this,sizeOf,typeInfo,run_program,t2,Sem.run_pure,t3,Option.map_none]
    have hpart:∀ {V:List Value} {f1:Fp} {Lt1:Nat→Nat→Prop} {P1:List Pm},P1.length=el.length→R w C.Fz Lt1 σ.g (rep n P1) cs V f1→∃ f',(∀ x∈f',x∈f1) ∧
      R w C.Fz Lt1 σ.g (rep (hh.toNat - l.toNat) P1) ((cs.drop (ix el.length l.toNat 0)).take (ix el.length (hh.toNat - l.toNat) 0)) ((V.drop (l.toNat * el.length)).take ((hh.toNat - l.toNat) * el.length)) f' :=by
     intro V f1 Lt1 P1 hP hR
     obtain ⟨fa,fb,fc,rfl,-,hm,-⟩:=hR.range (l.toNat * P1.length) ((hh.toNat - l.toNat) * P1.length)
     rw[rep_range (by omega),hP] at hm
     rw[ix_mul,ix_mul]
     exact ⟨fb,by simp +contextual,hm⟩
    have hempty:hh.toNat - l.toNat=0→∀ fl',fl'≠Fl.own→∀ el',(∃ ad cap,a.eval X = .slice ad n cap∧n≤cap)→Fresh o σ (dstIs o (.val false [.sl fl' el'] [.lst (hh.toNat - l.toNat) ((cs.drop (ix el.length l.toNat 0)).take (ix el.length (hh.toNat - l.toNat) 0))] [] 0)) →
      Goes C o a w ⟨puts (dstIs o (.val false [.sl fl' el'] [.lst (hh.toNat - l.toNat) ((cs.drop (ix el.length l.toNat 0)).take (ix el.length (hh.toNat - l.toNat) 0))] [] 0)) σ.env,σ.g⟩:=by
     intro h0 fl' hfl el' ⟨ad,cap,hev,hcap⟩ hfr
     have hex:=hexec hev hcap
     rw[h0,ix_zero,List.take_zero] at hfr ⊢
     rw[h0] at hex
     exact Goes.val1 H.df H.st (Ext.refl _ _) hex H.dst hfr hna (.slE (fun e=>absurd e hfl) .nil)
    obtain ⟨vs,f,h1,h2,hsub⟩:=readV_sound H.st hX hv
    obtain rfl:=one_cell h1
    by_cases hz:hh.toNat - l.toNat=0
    ·have hcap:∃ ad cap,a.eval X = .slice ad n cap∧n≤cap:=by
      obtain ⟨-,hrow⟩:=slS_row h2 c5
      rcases hrow with ⟨ad,cap,hva,hn0,_⟩ | ⟨b,off,cap,row,ety,fr,hva,hl0,hb,hn,-,-⟩
      ·exact ⟨ad,cap,by rw[hva,hn0],by omega⟩
      ·exact ⟨_,cap,hva,hn⟩
     cases fl with
     | own =>
       simp only[Option.some.injEq] at h
       subst h
       exact ⟨rfl,hempty hz _ (by simp) _ hcap hfr⟩
     | shr =>
       simp only[Option.some.injEq] at h
       subst h
       exact ⟨rfl,hempty hz _ (by simp) _ hcap hfr⟩
     | lent g1 =>
       simp only[Option.some.injEq] at h
       subst h
       exact ⟨rfl,hempty hz _ (by simp) _ hcap hfr⟩
    ·have hmul:l.toNat * el.length+(hh.toNat - l.toNat) * el.length≤n * el.length:=by
      rw[← Nat.add_mul];exact Nat.mul_le_mul_right _ (by omega)
     generalize hev:a.eval X=x at h2
     cases fl with
     | own =>
       simp only[Option.some.injEq] at h
       subst h
       cases h2 with
       | slE hf r=>omega
       | @slO b off _ cap row ety fr _ _ vs' _ _ _ fp₁ fp₂ h0 hb hFz hlt hn hs hr hf hi r =>
         subst hs
         have hex:=hexec hev hn
         rw[if_neg (by omega)] at hex
         simp only[Option.map_some,Addr.add_lit] at hex
         have hL:=R.lentify (Lt' :=fun b j=>Lt b j∨Lend fp b j) hi (fun _ _ h => .inl h) (fun x hx j a1 a2 hl=>by
          rcases hsub with he | ⟨k,hk⟩
          ·simp at he
          ·exact .inr ⟨k,x,hk x (by simp[hx]),rfl,hl,a1,a2⟩)
         rw[lentifies_rep] at hL
         obtain ⟨f',hf',hR⟩:=hpart (lentifies_length (g:=σ.g) el) hL
         have:f'=[]:=by
          cases f' with
          | nil=>rfl
          | cons y ys=>exact absurd (hf' y (by simp)) (by simp)
         subst this
         rw[seg_sub hmul] at hR
         have hlenL:∀ j,off+l.toNat * el.length≤j→j<off+l.toNat * el.length+(hh.toNat - l.toNat) * (lentifies σ.g el).length→(Lt b j∨Lend fp b j):=by
          intro j a1 a2
          rw[lentifies_length] at a2
          rcases hsub with he | ⟨k,hk⟩
          ·simp at he
          ·refine .inr ⟨k,⟨b,off,off+n * el.length,off+n * el.length,off+cap * el.length⟩,hk _ (by simp),rfl,?_,?_,?_⟩
           ·simp only;omega
           ·simp only;omega
           ·simp only;omega
         have hcapm:n * el.length≤cap * el.length:=Nat.mul_le_mul_right _ hn
         exact ⟨rfl,Goes.val1 H.lendAll.df H.lendAll.st (Ext.refl _ _) hex H.dst hfr hna
          (R.slL (by rw[lentifies_length];exact h0) hb hlenL (by omega) (by rw[lentifies_length]) (by rw[lentifies_length];omega) hR .nil)⟩
     | shr =>
       simp only[Option.some.injEq] at h
       subst h
       cases h2 with
       | slE hf r=>omega
       | @slS b off _ cap row ety fr _ _ vs' _ _ _ _ h0 hb hFz hn hs hr hi r =>
         subst hs
         have hex:=hexec hev hn
         rw[if_neg (by omega)] at hex
         simp only[Option.map_some,Addr.add_lit] at hex
         obtain ⟨f',hf',hR⟩:=hpart rfl hi
         have:f'=[]:=by
          cases f' with
          | nil=>rfl
          | cons y ys=>exact absurd (hf' y (by simp)) (by simp)
         subst this
         rw[seg_sub hmul] at hR
         exact ⟨rfl,Goes.val1 H.df H.st (Ext.refl _ _) hex H.dst hfr hna (R.slS h0 hb hFz (by omega) rfl (by omega) hR .nil)⟩
     | lent g1 =>
       simp only[Option.some.injEq] at h
       subst h
       cases h2 with
       | slE hf r=>omega
       | @slL b off _ cap row ety fr _ _ vs' _ _ _ _ h0 hb hlt hn hs hr hi r =>
         subst hs
         have hex:=hexec hev hn
         rw[if_neg (by omega)] at hex
         simp only[Option.map_some,Addr.add_lit] at hex
         obtain ⟨f',hf',hR⟩:=hpart rfl hi
         have:f'=[]:=by
          cases f' with
          | nil=>rfl
          | cons y ys=>exact absurd (hf' y (by simp)) (by simp)
         subst this
         rw[seg_sub hmul] at hR
         exact ⟨rfl,Goes.val1 H.df H.st (Ext.refl _ _) hex H.dst hfr hna (R.slL h0 hb (fun j a1 a2=>hlt j (by omega) (by omega)) (by omega) rfl (by omega) hR .nil)⟩
       | slX hg r=>simp[Fl.live] at c5;omega
   ·simp at h
  ·simp at h
 ·simp at h
end
end Go.Desk
end
section
namespace Go.Desk
open Go
theorem upd_mem {us:List (Nat × Slot)} {k:Nat} {s:Slot} (hn:(us.map (·.1)).Nodup) (h:(k,s)∈us):upd us k=some s:=by
 induction us with
 | nil=>simp at h
 | cons u us ih =>
   obtain ⟨j,t⟩:=u
   simp only[List.map_cons,List.nodup_cons] at hn
   simp only[upd]
   rcases List.mem_cons.1 h with h | h
   ·obtain ⟨rfl,rfl⟩:k=j∧s=t:=by simpa using h
    rw[upd_none hn.1];simp
   ·rw[ih hn.2 h]
theorem get_puts_mem {us env:List (Nat × Slot)} {k:Nat} {s:Slot} (hn:(us.map (·.1)).Nodup) (h:(k,s)∈us):get (puts us env) k=s:=by
 rw[get_puts,upd_mem hn h];rfl
theorem get_puts_not {us env:List (Nat × Slot)} {k:Nat} (h:k ∉ us.map (·.1)):get (puts us env) k=get env k:=by
 rw[get_puts,upd_none h];rfl
theorem nodupNat_spec:∀ {l:List Nat},nodupNat l=true→l.Nodup
 | [],_=>List.nodup_nil
 | x::xs,h=>by
   simp only[nodupNat,Bool.and_eq_true,Bool.not_eq_true'] at h
   refine List.nodup_cons.2 ⟨fun hm => ?_,nodupNat_spec h.2⟩
   have:=h.1
   rw[List.any_eq_false] at this
   exact this x hm (by simp)
section
variable {C:Ctx} {w w':World} {a a':Act} {σ:AS} {Lt Lt':Nat→Nat→Prop} {cv cv':Nat→Value} {fp fpU:Nat→Fp} {g g':Nat} {env':List (Nat × Slot)} {o:Oper} {Fz:Nat→Prop}
open Classical in
theorem StW.many {W:Nat→Nat→Prop} (us:List (Nat × Slot)) (val:Nat→Value) (fn:Nat→Fp) (h:StW C w a σ Lt cv fp) (hx:Ext w w' W)
  (hW:∀ b j,b<w.heap.size→W b j→C.w0.heap.size≤b∨C.Mut b j)
  (hg:(g'=σ.g∧(∀ b j,Lt b j→Lt' b j)∧(∀ b j,Lt b j→¬ W b j))∨(σ.g<g'∧Lt'=fun _ _=>False))
  (hnd:(us.map (·.1)).Nodup)
  (htm:∀ k,k<1000000→(if k∈us.map (·.1) then val k else cv k)=a'.tmps.getD k undef) (hsz:a'.tmps.size≤1000000)
  (hfree:∀ k,k ∉ us.map (·.1)→(∀ n,get σ.env k = .tup n→n≤16→∀ i,i<n→vslot k i∈us.map (·.1)→val (vslot k i)=cv (vslot k i)) ∧
     ∀ x∈fp k,(∀ j,x.lo≤j→j<x.hi→¬ W x.b j)∧∀ j,x.l≤j→¬ Lt' x.b j)
  (hus:∀ k s,(k,s)∈us→SlotR C w' Lt' g' (fun k=>if k∈us.map (·.1) then val k else cv k) (puts us σ.env) k (fn k) s∧((fn k).map Fe.b).Nodup ∧
     (∀ k'∈s.looks,k'<1000000∧seenOk (get (puts us σ.env) k')) ∧
     (k<1000000→seenOk (get σ.env k)→KeepsLooks w w' (cv k) (get σ.env k) (val k) s∧seenOk s) ∧
     (∀ x∈fn k,w.heap.size≤x.b∨∃ k0∈us.map (·.1),∃ y∈fp k0,y.b=x.b∧y.lo≤x.lo∧x.t≤y.t))
  (hdis:∀ j∈us.map (·.1),∀ k∈us.map (·.1),j≠k→∀ x∈fn j,∀ y∈fn k,x.b≠y.b)
  (hlt:∀ b j,Lt' b j→b<w'.heap.size):∃ fp',StW C w' a' ⟨puts us σ.env,g'⟩ Lt' (fun k=>if k∈us.map (·.1) then val k else cv k) fp' :=by
 let ow:Nat→Nat:=fun b=>if hb:∃ k,k∈us.map (·.1)∧∃ x∈fn k,x.b=b then hb.choose else 0
 have how:∀ k∈us.map (·.1),∀ x∈fn k,ow x.b=k:=by
  intro k hk x hx'
  have hb:∃ k',k'∈us.map (·.1)∧∃ y∈fn k',y.b=x.b:=⟨k,hk,x,hx',rfl⟩
  have e:ow x.b=hb.choose:=dif_pos hb
  obtain ⟨h1,y,h2,h3⟩:=hb.choose_spec
  rw[e]
  by_cases hE:hb.choose=k
  ·exact hE
  ·exact absurd h3 (hdis _ h1 k hk hE y h2 x hx')
 refine h.turn (W:=W) (ow:=ow) (fpU:=fn) (fun k=>k∈us.map (·.1)) hx hW hg htm hsz (fun k hk => ?_) (fun k hk => ?_) hlt
 ·obtain ⟨h1,h2⟩:=hfree k hk
  refine ⟨get_puts_not hk,if_neg hk,fun n hn h16 i hi => ?_,h2⟩
  split
  ·rename_i hm;exact h1 n hn h16 i hi hm
  ·rfl
 ·obtain ⟨⟨k',s⟩,hm,rfl⟩:=List.mem_map.1 hk
  obtain ⟨h1,h2,h3,h4,h5⟩:=hus k' s hm
  simp only
  rw[get_puts_mem hnd hm]
  exact ⟨h1,h2,h3,fun hs1 hs=>by rw[if_pos hk];exact h4 hs1 hs,fun x hx'=>⟨how k' hk x hx',h5 x hx'⟩⟩
structure Left (C:Ctx) (w:World) (σ:AS) (Lt:Nat→Nat→Prop) (cv:Nat→Value) (fp:Nat→Fp) (f:Fp) (k:Nat) (s:Slot) (fr:Fp):Prop where
 slot:∀ cv' env',cv' k=cv k→SlotR C w Lt σ.g cv' env' k fr s
 took:∀ x∈f,x∈fp k
 rest:∀ x∈fr,x∈fp k
 nodup:((f++fr).map Fe.b).Nodup
 looks:s.looks=[]
 keep:seenOk (get σ.env k)→KeepsLooks w w (cv k) (get σ.env k) (cv k) s∧seenOk s
 old:freshOk (get σ.env k)=false
theorem firms_append (g:Nat) (a b:List Pm):firms g (a++b)=(firms g a&&firms g b):=by
 induction a with
 | nil=>simp[firms]
 | cons p a ih=>simp[firms,ih,Bool.and_assoc]
theorem R.oneCells {g:Nat} {ps ts vs f} (h:R w Fz Lt g ps ts vs f) (hf:firms g ps=true):∀ v∈vs,v.oneCell'=true:=by
 induction h with
 | nil=>simp
 | leaf h _ ih =>
   rename_i t v _ _ _ _ _
   simp only[firms,Bool.and_eq_true] at hf
   simp only[List.mem_cons,forall_eq_or_imp]
   refine ⟨?_,ih hf.2⟩
   cases t <;>simp only[LeafRel] at h
   ·subst h;rfl
   ·subst h;rfl
   ·obtain ⟨b,rfl,-⟩:=h;rfl
   ·subst h;rfl
   ·rcases h with rfl | rfl | rfl <;>rfl
   ·obtain ⟨t,x,rfl⟩:=h;rfl
 | dead=>simp[firms,Pm.firm] at hf
 | slX h=>simp[firms,Pm.firm] at hf;omega
 | slH _ ih=>simp only[firms,Bool.and_eq_true] at hf;simp only[List.mem_cons,forall_eq_or_imp];exact ⟨rfl,ih hf.2⟩
 | rfX h=>simp[firms,Pm.firm] at hf;omega
 | slE _ _ ih=>simp only[firms,Bool.and_eq_true] at hf;simp only[List.mem_cons,forall_eq_or_imp];exact ⟨rfl,ih hf.2⟩
 | slS _ _ _ _ _ _ _ _ _ ih=>simp only[firms,Bool.and_eq_true] at hf;simp only[List.mem_cons,forall_eq_or_imp];exact ⟨rfl,ih hf.2⟩
 | slL _ _ _ _ _ _ _ _ _ ih=>simp only[firms,Bool.and_eq_true] at hf;simp only[List.mem_cons,forall_eq_or_imp];exact ⟨rfl,ih hf.2⟩
 | slO _ _ _ _ _ _ _ _ _ _ _ ih=>simp only[firms,Bool.and_eq_true] at hf;simp only[List.mem_cons,forall_eq_or_imp];exact ⟨rfl,ih hf.2⟩
 | rfS _ _ _ _ _ _ _ _ ih=>simp only[firms,Bool.and_eq_true] at hf;simp only[List.mem_cons,forall_eq_or_imp];exact ⟨rfl,ih hf.2⟩
 | rfL _ _ _ _ _ _ _ _ ih=>simp only[firms,Bool.and_eq_true] at hf;simp only[List.mem_cons,forall_eq_or_imp];exact ⟨rfl,ih hf.2⟩
 | rfO _ _ _ _ _ _ _ _ _ _ ih=>simp only[firms,Bool.and_eq_true] at hf;simp only[List.mem_cons,forall_eq_or_imp];exact ⟨rfl,ih hf.2⟩
 | fnv _ _ _ ih=>simp only[firms,Bool.and_eq_true] at hf;simp only[List.mem_cons,forall_eq_or_imp];exact ⟨rfl,ih hf.2⟩
theorem cells_one {v:Value} (h:v.oneCell'=true):v.cells = #[v]:=by
 cases v <;>simp[Value.oneCell'] at h <;>rfl
theorem CellsOf.cells {ag:Bool} {v:Value} {vs:List Value} {ps ts f} {g:Nat} (h:CellsOf ag v vs) (hR:R w Fz Lt g ps ts vs f) (hf:firms g ps=true):v.cells.toList=vs:=by
 cases ag with
 | true=>simp only[CellsOf,if_true] at h;subst h;simp[Value.cells]
 | false =>
   have h:=one_cell h
   subst h
   rw[cells_one (hR.oneCells hf v (by simp))]
theorem setN_self {cs ts:List T} {i n:Nat} (h:getN cs i n=some ts):setN cs i ts=cs:=by
 obtain ⟨h1,h2,h3⟩:=getN_eq h
 rcases Nat.eq_zero_or_pos n with rfl | hn
 ·have:ts=[]:=List.length_eq_zero_iff.1 h2
  subst this;rfl
 ·have h3:=h3 hn
  rw[setN_eq (by omega),h2,h1]
  exact (cut3 cs i n).symm
theorem whole_ix {P:List Pm} {cs:List T} {e c n:Nat} {q:List Pm} {r:List T} (hP:getP P c n=some q) (hC:getN cs (ix P.length e c) n=some r) (hl:cs.length=P.length) (hn:0<n) :
  ix P.length e c=c:=by
 have h1:=(getP_eq hP).2.2 hn
 have h2:=(getN_eq hC).2.2 hn
 rw[ix_eq (by omega)] at h2 ⊢
 rcases Nat.eq_zero_or_pos e with rfl | he
 ·simp
 ·have:P.length≤e * P.length:=Nat.le_mul_of_pos_left _ he
  omega
theorem noOwns_nil_pos {p:List Pm} {c n:Nat} {q:List Pm} (h:getP p c n=some q) (hq:¬ noOwns q=true):0<n:=by
 rcases Nat.eq_zero_or_pos n with rfl | hn
 ·simp only[getP,Option.some.injEq] at h;subst h;simp[noOwns] at hq
 ·exact hn
theorem R.deads {g:Nat}:∀ {n:Nat} {ts:List T} {vs:List Value},ts.length=n→vs.length=n→R w Fz Lt g (List.replicate n .dead) ts vs []
 | 0,[],[],_,_ => .nil
 | n+1,t::ts,v::vs,h1,h2 => .dead (R.deads (by simpa using h1) (by simpa using h2))
 | 0,_::_,_,h,_=>by simp at h
 | 0,[],_::_,_,h=>by simp at h
 | n+1,[],_,h,_=>by simp at h
 | n+1,_::_,[],_,h=>by simp at h
theorem takeView (h:StW C w a σ Lt cv fp) {t k:Nat} {pl:Place} {p p':List Pm} {cs:List T} {d:Dirt} {v:V} (hg:get σ.env t = .view k pl) (hpath:pl.path=[]) (hroot:(get σ.env k).root=some (p,cs,d))
  (hst:¬ stale d pl=true) (hv:atPlace p cs pl=some v) (hpos:0<pl.n) (hp':p'.length=pl.n)
  (hR':∀ vs f,R w C.Fz Lt σ.g v.p v.cs vs f→(∀ x∈f,x∈fp k)→R w C.Fz Lt σ.g p' v.cs vs []) :
  ∃ vs f fr,CellsOf v.agg (cv t) vs∧R w C.Fz Lt σ.g v.p v.cs vs f∧Left C w σ Lt cv fp f k ((get σ.env k).withRoot (setPs p pl.c p') cs (([],pl.c,pl.n)::d)) fr:=by
 have hlk:=h.looks t k (by rw[hg];simp[Slot.looks])
 have hs:=h.slots t
 rw[hg] at hs
 obtain ⟨el,rcs,a1,a2,a3,a4⟩:=atPlace_spec hv
 rw[hpath] at a1
 simp only[rowAt,Option.some.injEq,Prod.mk.injEq] at a1
 obtain ⟨rfl,rfl⟩:=a1
 obtain ⟨vs0,base0,fI,hrv,hR,hsub,hk⟩:=(h.slots k).rootR hroot
 have hix:=whole_ix a2 a3 hR.length_eq.1 hpos
 rw[hix] at a3
 obtain ⟨vs1,base1,el1,rv,base,k1,k2,k3,-⟩:=hs.2 p cs d hroot (by simpa using hst)
 obtain ⟨rfl,rfl⟩:=hrv.uniq k1
 rw[hpath] at k2
 simp only[cRow,Option.some.injEq,Prod.mk.injEq] at k2
 obtain ⟨rfl,rfl,rfl⟩:=k2
 simp only[Desk.pick,hix] at k3
 obtain ⟨f1,f,f2,rfl,hlen,hR1,hset⟩:=hR.resubP a2 a3 hpos
 have hnI:((f1++(f++f2)).map Fe.b).Nodup:=by
  rcases hk with ⟨_,_,_,_,e⟩ | ⟨_,_,_,_,_,_,_,_,_,_,_,_,e,_⟩
  ·rw[e];exact h.nodup k
  ·have:=h.nodup k;rw[e] at this;simp only[List.map_cons,List.nodup_cons] at this;exact this.2
 have hlent:=hR' _ _ hR1 (fun y hy=>hsub y (by simp[hy]))
 have hnew:=hset w Lt (fun _ _=>False) _ _ _ _ (Ext.refl _ _) (fun _ _ h=>h) (by simp) (by simp) (fun y hy=>⟨by simp,hR.noLtAbove y (by
  simp only[List.mem_append] at hy ⊢;rcases hy with hy | hy
  ·exact .inl hy
  ·exact .inr (.inr hy))⟩) hlent hp'
 rw[setN_self a3,← cut3] at hnew
 have hplen:(setPs p pl.c p').length=p.length:=by have:=hnew.length_eq;have:=hR.length_eq;omega
 simp only[List.nil_append] at hnew
 have hdisj:∀ y∈f,∀ z∈f1++f2,y.b≠z.b:=by
  intro y hy z hz e
  have hp:(f1++(f++f2)).Perm (f++(f1++f2)):=by
   rw[← List.append_assoc,← List.append_assoc]
   exact List.perm_append_comm.append_right f2
  have:=(hp.map Fe.b).nodup_iff.1 hnI
  rw[List.map_append,List.nodup_append] at this
  exact this.2.2 _ (List.mem_map.2 ⟨y,hy,rfl⟩) _ (List.mem_map.2 ⟨z,hz,rfl⟩) e
 have hnf:((f++(f1++f2)).map Fe.b).Nodup:=by
  have hp:(f1++(f++f2)).Perm (f++(f1++f2)):=by
   rw[← List.append_assoc,← List.append_assoc]
   exact List.perm_append_comm.append_right f2
  exact (hp.map Fe.b).nodup_iff.1 hnI
 have hkeep:seenOk (get σ.env k)→KeepsLooks w w (cv k) (get σ.env k) (cv k) ((get σ.env k).withRoot (setPs p pl.c p') cs (([],pl.c,pl.n)::d))∧seenOk ((get σ.env k).withRoot (setPs p pl.c p') cs (([],pl.c,pl.n)::d)):=by
  intro _
  refine ⟨KeepsLooks.turned hroot hplen (by simp) (fun vs2 base2 hr2=>⟨vs2,?_⟩) (by simp),?_⟩
  ·cases hgk:get σ.env k with
   | val ag2 p2 cs2 d2 pin2=>rw[hgk] at hr2;exact hr2
   | box p2 cs2 d2 pin2 =>
     rw[hgk] at hr2 hroot
     simp only[Slot.root,Option.some.injEq,Prod.mk.injEq] at hroot
     obtain ⟨b,off,row,e,fr,q1,q2,q3,q4⟩:=hr2
     exact ⟨b,off,row,e,fr,q1,q2,by rw[hplen,← hroot.1];exact q3,q4⟩
   | _=>rw[hgk] at hroot;simp[Slot.root] at hroot
  ·cases hgk:get σ.env k with
   | val=>simp[Slot.withRoot,seenOk]
   | box=>simp[Slot.withRoot,seenOk]
   | _=>rw[hgk] at hroot;simp[Slot.root] at hroot
 have hold:freshOk (get σ.env k)=false:=by
  cases hf:freshOk (get σ.env k) with
  | false=>rfl
  | true=>exact absurd hlk.2 (freshOk_not_seen hf)
 refine ⟨(vs0.drop pl.c).take pl.n,f,?_⟩
 rcases hk with ⟨ag,pin,hgk,rfl,e⟩ | ⟨pin,b,off,row,ety,fr,hgk,rfl,hcv,hb,hvs,hsz,e,hp0,hz,hlt0,hfree⟩
 ·refine ⟨f1++f2,by rw[a4];exact k3,hR1,⟨fun cv' env' hcv' => ?_,fun y hy=>hsub y (by simp[hy]),fun y hy=>hsub y (by
   simp only[List.mem_append] at hy ⊢;rcases hy with hy | hy
   ·exact .inl hy
   ·exact .inr (.inr hy)),hnf,?_,hkeep,hold⟩⟩
  ·have hsk:=h.slots k
   rw[hgk] at hsk ⊢
   rw[hgk] at hrv
   simp only[Slot.withRoot]
   obtain ⟨vs9,k1',-,k3'⟩:=hsk
   exact ⟨vs0,by rw[hcv'];exact hrv.1,hnew,fun hp=>by rw[k3' hp];exact k1'.uniq hrv.1⟩
  ·rw[hgk];rfl
 ·refine ⟨⟨b,off,off+p.length,0,off+p.length⟩::(f1++f2),by rw[a4];exact k3,hR1,⟨fun cv' env' hcv' => ?_,fun y hy=>hsub y (by simp[hy]),fun y hy => ?_,?_,?_,hkeep,hold⟩⟩
  ·have hsk:=h.slots k
   rw[hgk] at hsk ⊢
   simp only[Slot.withRoot]
   refine ⟨?_,fun hp=>by rw[hcv',hplen];exact hsk.2 hp⟩
   rw[hcv',hcv]
   have:=R.rfO (b:=b) (off:=off) (row:=row) (e:=ety) (fr:=fr) (el:=setPs p pl.c p') (cs:=cs) (vs' :=vs0) (by rw[hplen];exact hp0) hb hz hlt0 (by rw[hplen];exact hvs.symm) (by rw[hplen];exact hsz) (by rw[hplen];exact hfree) hnew (R.nil (w:=w) (Fz:=C.Fz) (Lt:=Lt) (g:=σ.g))
   simpa [hplen] using this
  ·rw[e]
   simp only[List.mem_cons,List.mem_append] at hy ⊢
   rcases hy with hy | hy | hy
   ·exact .inl hy
   ·exact .inr (.inl hy)
   ·exact .inr (.inr (.inr hy))
  ·have hall:=h.nodup k
   rw[e] at hall
   simp only[List.map_cons,List.nodup_cons] at hall
   have hp:(f++⟨b,off,off+p.length,0,off+p.length⟩::(f1++f2)).Perm (⟨b,off,off+p.length,0,off+p.length⟩::(f++(f1++f2))):=List.perm_middle
   refine (hp.map Fe.b).nodup_iff.2 ?_
   simp only[List.map_cons,List.nodup_cons]
   refine ⟨fun hm=>hall.1 ?_,hnf⟩
   simp only[List.map_append,List.mem_append] at hm ⊢
   rcases hm with hm | hm | hm
   ·exact .inr (.inl hm)
   ·exact .inl hm
   ·exact .inr (.inr hm)
  ·rw[hgk];rfl
theorem R.holes {g:Nat}:∀ {ps:List Pm} {ts hs:List T} {vs:List Value} {f:Fp},R w Fz Lt g ps ts vs f→holeT ps ts=some hs→R w Fz Lt g ps hs vs []
 | [],_,hs,_,_,h,hh=>by
   cases h
   simp only[holeT,Option.some.injEq] at hh
   subst hh;exact .nil
 | .leaf::ps,t::ts,hs,_,_,h,hh=>by
   simp only[holeT] at hh
   split at hh
   ·simp at hh
   ·rename_i r hr
    simp only[Option.some.injEq] at hh
    subst hh
    cases h with
    | leaf h1 h2=>exact .leaf h1 (h2.holes hr)
 | .sl .shr el::ps,t::ts,hs,_,_,h,hh=>by
   simp only[holeT] at hh
   split at hh
   ·simp at hh
   ·rename_i r hr
    simp only[Option.some.injEq] at hh
    subst hh
    cases h with
    | slE h1 h2=>exact .slE h1 (h2.holes hr)
    | slS h0 hb hz hn hs hr' hi h2=>exact .slS h0 hb hz hn hs hr' hi (h2.holes hr)
    | slH h2=>exact .slH (h2.holes hr)
 | .sl .own el::ps,t::ts,hs,_,_,h,hh=>by
   simp only[holeT] at hh
   split at hh
   ·simp at hh
   ·rename_i r hr
    simp only[Option.some.injEq] at hh
    subst hh
    cases h with
    | slE h1 h2=>exact .slH (h2.holes hr)
    | slO h0 hb hz hl hn hs hr' hf hi h2=>exact .slH (h2.holes hr)
    | slH h2=>exact .slH (h2.holes hr)
 | .dead::ps,_,_,_,_,_,hh=>by simp[holeT] at hh
 | .sl (.lent _) _::ps,_,_,_,_,_,hh=>by simp[holeT] at hh
 | .rf _ _::ps,_,_,_,_,_,hh=>by simp[holeT] at hh
 | .fn _::ps,_,_,_,_,_,hh=>by simp[holeT] at hh
theorem rowSet_const {f:List T→List T} (path:List (Nat × Nat)):∀ {P:List Pm} {cs:List T} {el rcs},rowAt P cs path=some (el,rcs)→rowSet P cs path f=rowSet P cs path (fun _=>f rcs):=by
 induction path with
 | nil =>
   intro P cs el rcs h
   simp only[rowAt,Option.some.injEq,Prod.mk.injEq] at h
   obtain ⟨rfl,rfl⟩:=h
   rfl
 | cons ec path ih =>
   obtain ⟨e,c⟩:=ec
   intro P cs el rcs h
   rw[rowAt] at h
   rw[rowSet,rowSet]
   split at h <;>try simp at h
   rename_i el1 hP
   split at h <;>try simp at h
   rw[ih h]
theorem takeRow (h:StW C w a σ Lt cv fp) {t k:Nat} {pl:Place} {p el:List Pm} {cs rcs hs:List T} {d:Dirt} {v:V} (hg:get σ.env t = .view k pl) (hpath:pl.path≠[]) (hroot:(get σ.env k).root=some (p,cs,d))
  (hst:¬ stale d pl=true) (hv:atPlace p cs pl=some v) (hra:rowAt p cs pl.path=some (el,rcs)) (hh:holeT v.p v.cs=some hs) (hpos:0<pl.n) :
  ∃ vs f fr,CellsOf v.agg (cv t) vs∧R w C.Fz Lt σ.g v.p v.cs vs f∧Left C w σ Lt cv fp f k ((get σ.env k).withRoot p (rowSet p cs pl.path fun rcs=>setN rcs (ix el.length pl.e pl.c) hs) ((cols pl.path,pl.c,pl.n)::d)) fr:=by
 have hlk:=h.looks t k (by rw[hg];simp[Slot.looks])
 have hs' :=h.slots t
 rw[hg] at hs'
 obtain ⟨el1,rcs1,a1,a2,a3,a4⟩:=atPlace_spec hv
 rw[hra] at a1
 obtain ⟨rfl,rfl⟩:el=el1∧rcs=rcs1:=by simpa using a1
 obtain ⟨vs0,base0,fI,hrv,hR,hsub,hk⟩:=(h.slots k).rootR hroot
 have hfI:(fI.map Fe.b).Nodup:=by
  rcases hk with ⟨_,_,_,_,e⟩ | ⟨_,_,_,_,_,_,_,_,_,_,_,_,e,_⟩
  ·rw[e];exact h.nodup k
  ·have:=h.nodup k;rw[e] at this;simp only[List.map_cons,List.nodup_cons] at this;exact this.2
 rw[← rep_one p] at hR
 have hrne:rcs≠[]:=by
  rintro rfl
  have:=(getN_eq a3).2.2 hpos
  simp at this;omega
 obtain ⟨m',rv',base',fpI,fpO,hcr',hRI,hperm,-,hcons,hset⟩:=hR.focus (W:=fun _ _=>False) pl.path base0 hfI hra hrne
 obtain ⟨vs1,base1,el2,rv,base,k1,k2,k3,-⟩:=hs'.2 p cs d hroot (by simpa using hst)
 obtain ⟨rfl,rfl⟩:=hrv.uniq k1
 rw[k2] at hcr'
 obtain ⟨rfl,rfl,rfl⟩:el2=el∧rv=rv'∧base=base' :=by simpa using hcr'
 obtain ⟨f1,fm,f2,rfl,hlen,hR1,hre⟩:=hRI.resub a2 a3 hpos
 have hH:=hR1.holes hh
 have hnewI:=hre w (fun _ _=>False) _ _ _ (Ext.refl _ _) (by simp) (by simp) (by simp) hH
 rw[← cut3] at hnewI
 obtain ⟨fp',hRn,hpermN⟩:=hset w _ _ _ (Ext.refl _ _) (by simp) (by simp) (by simp) hnewI (fun b o hb hp=>by
  obtain ⟨b1,o1,row,e,fr,hbase,hrow⟩:=hcons hp
  rw[hb] at hbase
  obtain ⟨rfl,rfl⟩:b=b1∧o=o1:=by simpa using hbase
  exact ⟨row,e,fr,hrow.hb,hrow.seg⟩)
 rw[if_neg hpath,rep_one,← rowSet_const pl.path (f:=fun rcs=>setN rcs (ix el2.length pl.e pl.c) hs) hra] at hRn
 have hmem:∀ x,x∈fm++fp'→x∈fI:=by
  intro x hx
  refine hperm.mem_iff.2 ?_
  rcases List.mem_append.1 hx with hx | hx
  ·simp[hx]
  ·have:=hpermN.mem_iff.1 hx
   simp only[List.mem_append,List.not_mem_nil,false_or] at this ⊢
   rcases this with (h | h) | h
   ·exact .inl (.inl h)
   ·exact .inl (.inr (.inr h))
   ·exact .inr h
 have hnd:((fm++fp').map Fe.b).Nodup:=by
  have hp:(fm++fp').Perm (f1++(fm++f2)++fpO):=(hpermN.append_left fm).trans (by rw[List.perm_iff_count];intro z;simp only[List.count_append,List.count_nil];omega)
  exact ((hp.trans hperm.symm).map Fe.b).nodup_iff.2 hfI
 have hkeep:seenOk (get σ.env k)→KeepsLooks w w (cv k) (get σ.env k) (cv k) ((get σ.env k).withRoot p (rowSet p cs pl.path fun rcs=>setN rcs (ix el2.length pl.e pl.c) hs) ((cols pl.path,pl.c,pl.n)::d))∧seenOk ((get σ.env k).withRoot p (rowSet p cs pl.path fun rcs=>setN rcs (ix el2.length pl.e pl.c) hs) ((cols pl.path,pl.c,pl.n)::d)):=by
  intro _
  refine ⟨KeepsLooks.turned hroot rfl (fun _ vs2 base2 hr2 => ?_) (fun vs2 base2 hr2=>⟨vs2,?_⟩) (fun _=>⟨rfl,⟨fun _ _=>False,Ext.refl _ _⟩,fun e c h=>rowSet_top hpath e c h⟩),?_⟩
  ·cases hgk:get σ.env k with
   | val ag2 p2 cs2 d2 pin2=>rw[hgk] at hr2;exact hr2
   | box p2 cs2 d2 pin2 =>
     rw[hgk] at hr2 hroot
     simp only[Slot.root,Option.some.injEq,Prod.mk.injEq] at hroot
     obtain ⟨b,off,row,e,fr,q1,q2,q3,q4⟩:=hr2
     exact ⟨b,off,row,e,fr,q1,q2,by rw[← hroot.1];exact q3,q4⟩
   | _=>rw[hgk] at hroot;simp[Slot.root] at hroot
  ·cases hgk:get σ.env k with
   | val ag2 p2 cs2 d2 pin2=>rw[hgk] at hr2;exact hr2
   | box p2 cs2 d2 pin2 =>
     rw[hgk] at hr2 hroot
     simp only[Slot.root,Option.some.injEq,Prod.mk.injEq] at hroot
     obtain ⟨b,off,row,e,fr,q1,q2,q3,q4⟩:=hr2
     exact ⟨b,off,row,e,fr,q1,q2,by rw[← hroot.1];exact q3,q4⟩
   | _=>rw[hgk] at hroot;simp[Slot.root] at hroot
  ·cases hgk:get σ.env k with
   | val=>simp[Slot.withRoot,seenOk]
   | box=>simp[Slot.withRoot,seenOk]
   | _=>rw[hgk] at hroot;simp[Slot.root] at hroot
 have hold:freshOk (get σ.env k)=false:=by
  cases hf:freshOk (get σ.env k) with
  | false=>rfl
  | true=>exact absurd hlk.2 (freshOk_not_seen hf)
 refine ⟨Desk.pick rv el2 pl,fm,?_⟩
 rcases hk with ⟨ag,pin,hgk,rfl,e⟩ | ⟨pin,b,off,row,ety,fr,hgk,rfl,hcv,hb,hvs,hsz,e,hp0,hz,hlt0,hfree⟩
 ·refine ⟨fp',by rw[a4];exact k3,hR1,⟨fun cv' env' hcv' => ?_,fun y hy=>hsub y (hmem y (by simp[hy])),fun y hy=>hsub y (hmem y (by simp[hy])),hnd,?_,hkeep,hold⟩⟩
  ·have hsk:=h.slots k
   rw[hgk] at hsk ⊢
   rw[hgk] at hrv
   simp only[Slot.withRoot]
   obtain ⟨vs9,k1',-,k3'⟩:=hsk
   obtain rfl:=hrv.1.uniq k1'
   exact ⟨vs0,by rw[hcv'];exact k1',hRn,k3'⟩
  ·rw[hgk];rfl
 ·refine ⟨⟨b,off,off+p.length,0,off+p.length⟩::fp',by rw[a4];exact k3,hR1,⟨fun cv' env' hcv' => ?_,fun y hy=>hsub y (hmem y (by simp[hy])),fun y hy => ?_,?_,?_,hkeep,hold⟩⟩
  ·have hsk:=h.slots k
   rw[hgk] at hsk ⊢
   simp only[Slot.withRoot]
   refine ⟨?_,fun hp=>by rw[hcv'];exact hsk.2 hp⟩
   rw[hcv',hcv]
   have:=R.rfO (b:=b) (off:=off) (row:=row) (e:=ety) (fr:=fr) (el:=p) (vs' :=vs0) hp0 hb hz hlt0 hvs.symm hsz hfree hRn (R.nil (w:=w) (Fz:=C.Fz) (Lt:=Lt) (g:=σ.g))
   simpa using this
  ·rw[e]
   rcases List.mem_cons.1 hy with hy | hy
   ·exact List.mem_cons.2 (.inl hy)
   ·exact List.mem_cons_of_mem _ (hmem y (by simp[hy]))
  ·have hall:=h.nodup k
   rw[e] at hall
   simp only[List.map_cons,List.nodup_cons] at hall
   have hp:(fm++⟨b,off,off+p.length,0,off+p.length⟩::fp').Perm (⟨b,off,off+p.length,0,off+p.length⟩::(fm++fp')):=List.perm_middle
   refine (hp.map Fe.b).nodup_iff.2 ?_
   simp only[List.map_cons,List.nodup_cons]
   refine ⟨fun hm=>hall.1 ?_,hnd⟩
   obtain ⟨x,hx,hxe⟩:=List.mem_map.1 hm
   exact List.mem_map.2 ⟨x,hmem x hx,hxe⟩
  ·rw[hgk];rfl
theorem takeV_sound (h:StW C w a σ Lt cv fp) (hL:∀ b j,Lend fp b j→Lt b j) {x:Operand} {ty:Nat} {v:V} {us:List (Nat × Slot)} (hx:opndOk x)
  (ht:takeV C.E σ.g ty (resolve1 σ.env x)=some (v,us)) :
  ∃ vs f,CellsOf v.agg (a.eval x) vs∧R w C.Fz Lt σ.g v.p v.cs vs f∧firms σ.g v.p=true ∧
   ((us=[]∧f=[])∨∃ k s fr,us=[(k,s)]∧Left C w σ Lt cv fp f k s fr):=by
 unfold takeV at ht
 split at ht
 ·simp at ht
 rename_i v' hv
 split at ht
 ·simp at ht
 rename_i hfirm
 simp only[Bool.not_eq_true,Bool.not_eq_false'] at hfirm
 split at ht
 ·rename_i hn
  simp only[Option.some.injEq,Prod.mk.injEq] at ht
  obtain ⟨rfl,rfl⟩:=ht
  obtain ⟨vs,f,h1,h2,-⟩:=readV_sound h hx hv
  have:=h2.noOwn hn
  subst this
  exact ⟨vs,[],h1,h2,hfirm,.inl ⟨rfl,rfl⟩⟩
 ·rename_i hno
  cases x with
  | const c =>
    simp only[resolve1,Option.some.injEq,Prod.mk.injEq] at ht
    obtain ⟨rfl,rfl⟩:=ht
    simp only[resolve1,readV] at hv
    obtain ⟨vs,h1,h2⟩:=constV_sound (w:=w) (Lt:=Lt) (Fz:=C.Fz) (g:=σ.g) hv
    exact ⟨vs,[],h1,h2,hfirm,.inl ⟨rfl,rfl⟩⟩
  | global=>simp[resolve1] at ht
  | func=>simp[resolve1] at ht
  | tmp t =>
    rw[eval_tmp h hx]
    rw[resolve1_tmp] at ht hv
    have hs:=h.slots t
    cases hg:get σ.env t with
    | val ag p cs d pin =>
      simp only[hg] at ht hv
      simp only[readV,Option.some.injEq] at hv
      subst hv
      cases pin with
      | succ=>simp at ht
      | zero =>
        simp only[Option.some.injEq,Prod.mk.injEq] at ht
        obtain ⟨rfl,rfl⟩:=ht
        rw[hg] at hs
        obtain ⟨vs,h1,h2,-⟩:=hs
        refine ⟨vs,fp t,h1,h2,hfirm,.inr ⟨t,.gone,[],rfl,⟨fun _ _ _=>rfl,fun _ h=>h,by simp,by simpa using h.nodup t,rfl,fun _=>⟨KeepsLooks.noRoot rfl,trivial⟩,?_⟩⟩⟩
        rw[hg]
        simp only at hno
        cases d <;>simp[freshOk,hno]
    | view k pl =>
      simp only[hg] at ht hv
      have hlk:=h.looks t k (by rw[hg];simp[Slot.looks])
      split at ht
      ·rename_i hpath
       cases hroot:(get σ.env k).root with
       | none=>simp[hroot] at ht
       | some pcd =>
         obtain ⟨p,cs,d⟩:=pcd
         simp only[hroot,Option.some.injEq,Prod.mk.injEq] at ht
         obtain ⟨rfl,rfl⟩:=ht
         simp only[readV,hroot] at hv
         split at hv
         ·simp at hv
         rename_i hst
         obtain ⟨el,rcs,a1,a2,-,-⟩:=atPlace_spec hv
         rw[hpath] at a1
         simp only[rowAt,Option.some.injEq,Prod.mk.injEq] at a1
         obtain ⟨rfl,rfl⟩:=a1
         have hpos:=noOwns_nil_pos a2 hno
         have hlen:v'.p.length=pl.n:=(getP_eq a2).2.1
         cases hpn:(get σ.env k).pinned with
         | true =>
           obtain ⟨vs,f,fr,h1,h2,h3⟩:=takeView h (p' :=List.replicate pl.n .dead) hg hpath hroot hst hv hpos (by simp)
            (fun vs f hR hsub=>R.deads (by have:=hR.length_eq;omega) (by have:=hR.length_eq;omega))
           exact ⟨vs,f,h1,h2,hfirm,.inr ⟨k,_,fr,by simp only[takenAt],h3⟩⟩
         | false =>
           obtain ⟨vs,f,fr,h1,h2,h3⟩:=takeView h (p' :=lentifies σ.g v'.p) hg hpath hroot hst hv hpos (by rw[lentifies_length];exact hlen)
            (fun vs f hR hsub=>hR.lentify (fun _ _ h=>h) (fun y hy j b1 b2 hl=>hL _ _ ⟨k,y,hsub y hy,rfl,hl,b1,b2⟩))
           have hat:takenAt false σ.g p pl.c pl.n=setPs p pl.c (lentifies σ.g v'.p):=by simp[takenAt,lentAt,a2]
           rw[← hat] at h3
           exact ⟨vs,f,h1,h2,hfirm,.inr ⟨k,_,fr,rfl,h3⟩⟩
      ·rename_i hpath
       split at ht
       ·simp at ht
       rename_i hpos
       cases hroot:(get σ.env k).root with
       | none=>simp[hroot] at ht
       | some pcd =>
         obtain ⟨p,cs,d⟩:=pcd
         simp only[hroot] at ht
         split at ht
         ·simp at ht
         rename_i el rcs hra
         split at ht
         ·simp at ht
         rename_i hs' hh
         simp only[Option.some.injEq,Prod.mk.injEq] at ht
         obtain ⟨rfl,rfl⟩:=ht
         simp only[readV,hroot] at hv
         split at hv
         ·simp at hv
         rename_i hst
         obtain ⟨vs,f,fr,h1,h2,h3⟩:=takeRow h hg (fun e=>hpath e) hroot hst hv hra hh (by
          rcases Nat.eq_zero_or_pos pl.n with h0 | h0
          ·exact absurd (by simp[h0]) hpos
          ·exact h0)
         exact ⟨vs,f,h1,h2,hfirm,.inr ⟨k,_,fr,rfl,h3⟩⟩
    | _=>simp[hg,readV] at hv
end
end Go.Desk
end
