/- FnExactRecoverJournal holds: for every input the law returns true, and its arguments read as before; what its row lists is tied to the text. -/
import Derived.Calls
import Derived.Orders
import Derived.Laws.Sem
import Derived.Laws.World
import Derived.Laws.Entries
import Derived.Below
import Derived.Laws.FloatArith
import Derived.Laws.Strings
import Derived.Laws.StructEq
import Derived.Laws.BitsLemmas
import Derived.Laws.Append
import GoSem.ClaimChange
import Derived.ChangeOld
import Derived.Carry
import Derived.OpenShut
import Derived.ChangeShapes
import Derived.Handed
import Derived.HandedShaped
import Derived.Shelf.Vars
import Derived.LaidMore
import Derived.LaidHandle
import Derived.Lib.LaidU8
import Derived.Lib.LaidTab
import Derived.Lib.ItoaNum
import Derived.Lib.IndexMore
import Derived.Lib.Split
import Derived.Lib.Join
import Derived.Laws.Externs
import Derived.Sort.Grow
import Derived.Deep.Draws
set_option linter.all false
set_option linter.unusedVariables false
theorem zc (m : Nat) (h : 0 < m) : ∃ k, m = k + 1 := ⟨m - 1, by omega⟩
open List (all_cons all_eq_true any_eq_false any_eq_true append_assoc append_nil cons_append count_append drop_drop drop_eq_getElem_cons drop_eq_nil_of_le drop_left' drop_zero flatMap_cons flatMap_def flatten_cons foldl_cons length_append length_cons length_eq_one_iff length_eq_zero_iff length_map length_nil length_singleton length_take mapM_cons map_append map_congr_left map_cons map_map map_nil mem_append mem_append_left mem_append_right mem_cons mem_cons_of_mem mem_cons_self mem_flatten mem_map mem_singleton nil_append nodup_append nodup_cons perm_append_comm perm_iff_count perm_middle replicate_succ take_append_drop take_left' take_length take_succ_cons take_zero)
theorem zS {α : Type _} (a b : α) : (some a = some b) = (a = b) := Option.some.injEq a b
theorem zP {α : Type _} {β : Type _} (a : α) (b : β) (c : α) (d : β) : ((a, b) = (c, d)) = (a = c ∧ b = d) := Prod.mk.injEq a b c d
theorem zB (a b : Bool) : ((a && b) = true) = (a = true ∧ b = true) := Bool.and_eq_true a b
theorem zA (b : Bool) : (b && b) = b := Bool.and_self b
theorem zT (n : Nat) : (n : Int).toNat = n := Int.toNat_natCast n
section
namespace Go.Desk
open Go
def isNaN (k:FloatKind) (b:Nat):Bool:=(k.decode b).isNaN
def E5:FloatKind→Nat
 | .f32=>2143289344
 | .f64=>9221120237041090560
def Af (k:FloatKind) (b:Nat):Nat:=if isNaN k b then E5 k else b
inductive Fl where
 | own | shr | lent (g:Nat)
inductive Pm where
 | leaf
 | dead
 | sl (fl:Fl) (el:List Pm)
 | rf (fl:Fl) (el:List Pm)
 | fn (caps:List Pm)
 | mv (g:Nat) (el:List Pm)
 | bld (T e:Nat)
inductive T where
 | int (k:IntKind) (n:Int)
 | bool (b:Bool)
 | flt (k:FloatKind) (x:Nat)
 | str (s:List UInt8)
 | nil
 | opq
 | lst (n:Nat) (cs:List T)
 | ref (cs:List T)
 | fn (f:Nat) (caps:List T)
def AG:T→Value→Prop
 | .int k n,v=>v = .int k n
 | .bool b,v=>v = .bool b
 | .flt k x,v=>∃ b,v = .float k b∧Af k b=x
 | .str s,v=>v = .string ⟨⟨s⟩⟩
 | .nil,v=>v = .pointer none∨v = .nilFunc∨v = .nilIface
 | .opq,v=>∃ b:Nat,isNaN .f64 b=true∧v = .int .u64 b
 | _,_=>False
structure Fe where
 b:Nat
 lo:Nat
 hi:Nat
 l:Nat
 t:Nat
 deriving DecidableEq
abbrev Fp:=List Fe
def rep (n:Nat) (el:List Pm):List Pm:=(List.replicate n el).flatten
def seg (row:Array Value) (off n:Nat):List Value:=(row.toList.drop off).take n
inductive R (w:World) (Fz:Nat→Prop) (Lt:Nat→Nat→Prop) (g:Nat):List Pm→List T→List Value→Fp→Prop
 | nil:R w Fz Lt g [] [] [] []
 | leaf {t v ps ts vs fp} (h:AG t v) (r:R w Fz Lt g ps ts vs fp):R w Fz Lt g (.leaf::ps) (t::ts) (v::vs) fp
 | dead {t v ps ts vs fp} (r:R w Fz Lt g ps ts vs fp):R w Fz Lt g (.dead::ps) (t::ts) (v::vs) fp
 | slE {fl el a cap ps ts vs fp} (h:fl = .own→a=none∧cap=0) (r:R w Fz Lt g ps ts vs fp) :
    R w Fz Lt g (.sl fl el::ps) (.lst 0 []::ts) (.slice a 0 cap::vs) fp
 | slS {b off n cap row e fr el cs vs' ps ts vs fp} (h0:0<el.length) (hb:w.heap[b]?=some (.cells row e fr)) (hz:Fz b) (hn:n≤cap)
    (hs:seg row off (n * el.length)=vs') (hr:off+n * el.length≤row.size) (hi:R w Fz Lt g (rep n el) cs vs' []) (r:R w Fz Lt g ps ts vs fp) :
    R w Fz Lt g (.sl .shr el::ps) (.lst n cs::ts) (.slice (some ⟨b,off,none⟩) n cap::vs) fp
 | slL {b off n cap row e fr el cs vs' ps ts vs fp} (h0:0<el.length) (hb:w.heap[b]?=some (.cells row e fr)) (hl:∀ j,off≤j→j<off+n * el.length→Lt b j) (hn:n≤cap)
    (hs:seg row off (n * el.length)=vs') (hr:off+n * el.length≤row.size) (hi:R w Fz Lt g (rep n el) cs vs' []) (r:R w Fz Lt g ps ts vs fp) :
    R w Fz Lt g (.sl (.lent g) el::ps) (.lst n cs::ts) (.slice (some ⟨b,off,none⟩) n cap::vs) fp
 | slH {fl el a n cap ps ts vs fp} (r:R w Fz Lt g ps ts vs fp):R w Fz Lt g (.sl fl el::ps) (.nil::ts) (.slice a n cap::vs) fp
 | slX {g' el t v ps ts vs fp} (h:g'<g) (r:R w Fz Lt g ps ts vs fp):R w Fz Lt g (.sl (.lent g') el::ps) (t::ts) (v::vs) fp
 | slO {b off n cap row e fr el cs vs' ps ts vs fp₁ fp₂} (h0:0<el.length) (hb:w.heap[b]?=some (.cells row e fr)) (hz:¬ Fz b) (hl:∀ j,off+n * el.length≤j→¬ Lt b j) (hn:n≤cap)
    (hs:seg row off (n * el.length)=vs') (hr:off+cap * el.length≤row.size) (hf:0<cap→∀ j,off≤j→¬ (fr.1≤j∧j<fr.2))
    (hi:R w Fz Lt g (rep n el) cs vs' fp₁) (r:R w Fz Lt g ps ts vs fp₂) :
    R w Fz Lt g (.sl .own el::ps) (.lst n cs::ts) (.slice (some ⟨b,off,none⟩) n cap::vs) (⟨b,off,off+n * el.length,off+n * el.length,off+cap * el.length⟩::fp₁++fp₂)
 | rfS {b off row e fr el cs vs' ps ts vs fp} (h0:0<el.length) (hb:w.heap[b]?=some (.cells row e fr)) (hz:Fz b)
    (hs:seg row off el.length=vs') (hr:off+el.length≤row.size) (hi:R w Fz Lt g el cs vs' []) (r:R w Fz Lt g ps ts vs fp) :
    R w Fz Lt g (.rf .shr el::ps) (.ref cs::ts) (.pointer (some ⟨b,off,none⟩)::vs) fp
 | rfL {b off row e fr el cs vs' ps ts vs fp} (h0:0<el.length) (hb:w.heap[b]?=some (.cells row e fr)) (hl:∀ j,off≤j→j<off+el.length→Lt b j)
    (hs:seg row off el.length=vs') (hr:off+el.length≤row.size) (hi:R w Fz Lt g el cs vs' []) (r:R w Fz Lt g ps ts vs fp) :
    R w Fz Lt g (.rf (.lent g) el::ps) (.ref cs::ts) (.pointer (some ⟨b,off,none⟩)::vs) fp
 | rfO {b off row e fr el cs vs' ps ts vs fp₁ fp₂} (h0:0<el.length) (hb:w.heap[b]?=some (.cells row e fr)) (hz:¬ Fz b) (hl:∀ j,¬ Lt b j)
    (hs:seg row off el.length=vs') (hr:off+el.length≤row.size) (hf:∀ j,off≤j→j<off+el.length→¬ (fr.1≤j∧j<fr.2))
    (hi:R w Fz Lt g el cs vs' fp₁) (r:R w Fz Lt g ps ts vs fp₂) :
    R w Fz Lt g (.rf .own el::ps) (.ref cs::ts) (.pointer (some ⟨b,off,none⟩)::vs) (⟨b,off,off+el.length,0,off+el.length⟩::fp₁++fp₂)
 | rfX {g' el t v ps ts vs fp} (h:g'<g) (r:R w Fz Lt g ps ts vs fp):R w Fz Lt g (.rf (.lent g') el::ps) (t::ts) (v::vs) fp
 | mvE {g' el a cap ps ts vs fp} (r:R w Fz Lt g ps ts vs fp):R w Fz Lt g (.mv g' el::ps) (.lst 0 []::ts) (.slice a 0 cap::vs) fp
 | mvX {g' el t v n cs vs' ps ts vs fp₁ fp₂} (h:g'<g) (hi:R w Fz Lt g (rep n el) cs vs' fp₁) (r:R w Fz Lt g ps ts vs fp₂):R w Fz Lt g (.mv g' el::ps) (t::ts) (v::vs) (fp₁++fp₂)
 | mvO {b off n cap row e fr el cs vs' ps ts vs fp₁ fp₂} (h0:0<el.length) (hb:w.heap[b]?=some (.cells row e fr)) (hl:∀ j,off≤j→j<off+n * el.length→Lt b j)
    (hs:seg row off (n * el.length)=vs') (hr:off+n * el.length≤row.size) (hi:R w Fz Lt g (rep n el) cs vs' fp₁) (r:R w Fz Lt g ps ts vs fp₂) :
    R w Fz Lt g (.mv g el::ps) (.lst n cs::ts) (.slice (some ⟨b,off,none⟩) n cap::vs) (fp₁++fp₂)
 | bldN {b T e p ps ts vs fp} (hb:w.heap[b]?=some (.cells #[p,.slice none 0 0] T (0,0))) (hp:p = .pointer none∨p = .pointer (some ⟨b,0,none⟩)) (hz:¬ Fz b) (hl:∀ j,¬ Lt b j)
    (r:R w Fz Lt g ps ts vs fp):R w Fz Lt g (.bld T e::ps) (.str []::ts) (.pointer (some ⟨b,0,none⟩)::vs) (⟨b,0,2,0,2⟩::fp)
 | bldO {b T e p c n cap cur bs ps ts vs fp} (hb:w.heap[b]?=some (.cells #[p,.slice (some ⟨c,0,none⟩) n cap] T (0,0))) (hp:p = .pointer none∨p = .pointer (some ⟨b,0,none⟩)) (hz:¬ Fz b) (hl:∀ j,¬ Lt b j)
    (hc:w.heap[c]?=some (.cells cur e (0,0))) (hzc:¬ Fz c) (hlc:∀ j,¬ Lt c j) (h0:0<cap) (hn:n≤cap) (hm:cap≤maxLen) (hcs:cur.size=cap) (hbs:cur.toList.take n=bs.map fun x=>Value.int .u8 x.toNat)
    (r:R w Fz Lt g ps ts vs fp):R w Fz Lt g (.bld T e::ps) (.str bs::ts) (.pointer (some ⟨b,0,none⟩)::vs) (⟨b,0,2,0,2⟩::⟨c,0,cap,0,cap+1⟩::fp)
 | fnv {f cps cts caps ps ts vs fp} (hi:R w Fz Lt g cps cts caps []) (r:R w Fz Lt g ps ts vs fp) :
    R w Fz Lt g (.fn cps::ps) (.fn f cts::ts) (.func (.func f) #[] caps.toArray::vs) fp
theorem Jv {row:Array Value} {off n:Nat} (h:off+n≤row.size):(seg row off n).length=n:=by
 simp[seg];omega
theorem seg_getElem? {row:Array Value} {off n i:Nat}:(seg row off n)[i]?=if i<n then row[off+i]? else none:=by
 simp[seg,List.getElem?_take,List.getElem?_drop]
theorem Aw {row row':Array Value} {off n:Nat} (h:∀ j,off≤j→j<off+n→row'[j]?=row[j]?):seg row' off n=seg row off n:=by
 apply List.ext_getElem?
 intro i
 rw[seg_getElem?,seg_getElem?]
 split
 ·exact h _ (by omega) (by omega)
 ·rfl
structure Ab (w w':World) (W:Nat→Nat→Prop):Prop where
 os:w'.os=w.os
 tape:w'.tape=w.tape
 output:w'.output=w.output
 size:w.heap.size≤w'.heap.size
 cells:∀ (b:Nat) row e fr,w.heap[b]?=some (.cells row e fr)→∃ row' fr',w'.heap[b]?=some (.cells row' e fr')∧row'.size=row.size∧(∀ j,¬ W b j→row'[j]?=row[j]?)∧(fr'=fr∨(0<row.size∧∀ j,j≤row.size→W b j))
 other:∀ (b:Nat) (o:Obj),w.heap[b]?=some o→(∀ row e fr,o≠Obj.cells row e fr)→w'.heap[b]?=some o
theorem Ab.refl (w:World) (W:Nat→Nat→Prop):Ab w w W :=
 ⟨rfl,rfl,rfl,Nat.le_refl _,fun _ row _ fr h=>⟨row,fr,h,rfl,fun _ _=>rfl,.inl rfl⟩,fun _ _ h _=>h⟩
theorem Ab.trans {w w' w'':World} {W W' W'':Nat→Nat→Prop} (h:Ab w w' W) (k:Ab w' w'' W')
  (h1:∀ b j,W b j→W'' b j) (h2:∀ b j,b<w.heap.size→W' b j→W'' b j):Ab w w'' W'' :=by
 refine ⟨k.os.trans h.os,k.tape.trans h.tape,k.output.trans h.output,Nat.le_trans h.size k.size,?_,?_⟩
 ·intro b row e fr hb
  obtain ⟨r1,fr1,a1,a2,a3,a4⟩:=h.cells b row e fr hb
  obtain ⟨r2,fr2,c1,c2,c3,c4⟩:=k.cells b r1 e fr1 a1
  have hlt:b<w.heap.size:=by
   rcases Nat.lt_or_ge b w.heap.size with h | h
   ·exact h
   ·simp[Array.getElem?_eq_none h] at hb
  refine ⟨r2,fr2,c1,c2.trans a2,fun j hj => ?_,?_⟩
  ·rw[c3 j (fun x=>hj (h2 _ _ hlt x)),a3 j (fun x=>hj (h1 _ _ x))]
  ·rcases c4 with rfl | ⟨c4,c5⟩
   ·exact a4.imp_right fun x=>⟨x.1,fun j hj=>h1 _ _ (x.2 j hj)⟩
   ·exact .inr ⟨by omega,fun j hj=>h2 _ _ hlt (c5 j (by omega))⟩
 ·intro b o hb ho
  exact k.other b o (h.other b o hb ho) ho
theorem Ab.mono {w w':World} {W W':Nat→Nat→Prop} (h:Ab w w' W) (hw:∀ b j,b<w.heap.size→W b j→W' b j):Ab w w' W' :=by
 refine ⟨h.os,h.tape,h.output,h.size,?_,h.other⟩
 intro b row e fr hb
 obtain ⟨r1,fr1,a1,a2,a3,a4⟩:=h.cells b row e fr hb
 have hlt:b<w.heap.size:=by
  rcases Nat.lt_or_ge b w.heap.size with h | h
  ·exact h
  ·simp[Array.getElem?_eq_none h] at hb
 exact ⟨r1,fr1,a1,a2,fun j hj=>a3 j fun x=>hj (hw _ _ hlt x),a4.imp_right fun x=>⟨x.1,fun j hj=>hw _ _ hlt (x.2 j hj)⟩⟩
theorem Ab.below {w w':World} {W:Nat→Nat→Prop} {B:Nat} (h:Ab w w' W) (hw:∀ b j,W b j→B≤b) (hB:B≤w.heap.size):RowKit.Below B w w' :=by
 refine ⟨h.os,h.tape,h.output,h.size,fun k hk => ?_⟩
 have hlt:k<w.heap.size:=by omega
 obtain ⟨o,ho⟩:∃ o,w.heap[k]?=some o:=⟨_,Array.getElem?_eq_getElem hlt⟩
 by_cases hc:∃ row e fr,o=Obj.cells row e fr
 ·obtain ⟨row,e,fr,rfl⟩:=hc
  obtain ⟨r1,fr1,a1,a2,a3,a4⟩:=h.cells k row e fr ho
  obtain rfl:fr1=fr:=a4.elim id fun x=>by have:=hw _ _ (x.2 0 (Nat.zero_le _));omega
  rw[a1,ho]
  congr 2
  apply Array.ext_getElem?
  intro j
  exact a3 j fun x=>by have:=hw _ _ x;omega
 ·rw[h.other k o ho (fun row e fr he=>hc ⟨row,e,fr,he⟩),ho]
theorem Ab.drew {w w':World} {W:Nat→Nat→Prop} (h:Ab w w' W):Ab w w'.drew W:=⟨h.os,h.tape,h.output,h.size,h.cells,h.other⟩
theorem Ab.alloc (w:World) (o:Obj) (W:Nat→Nat→Prop):Ab w (w.alloc o) W:=by
 refine ⟨rfl,rfl,rfl,by simp,fun b row e fr hb=>⟨row,fr,?_,rfl,fun _ _=>rfl,.inl rfl⟩,fun b o' hb _ => ?_⟩
 all_goals
  have hlt:b<w.heap.size:=by
   rcases Nat.lt_or_ge b w.heap.size with h | h
   ·exact h
   ·simp[Array.getElem?_eq_none h] at hb
  rw[RowKit.Below.heap_alloc _ _ _ hlt,hb]
theorem Ab.setCell (w:World) (a:Addr) (v:Value):Ab w (w.setCell a v) (fun b j=>b=a.block∧j=a.off):=by
 refine ⟨rfl,rfl,rfl,by simp,fun b row e fr hb => ?_,fun b o hb ho => ?_⟩
 ·by_cases h:b=a.block
  ·subst h
   refine ⟨if a.spot.isSome then row else row.setIfInBounds a.off v,fr,?_,?_,?_,.inl rfl⟩
   ·simp only[World.setCell,Array.getElem?_modify]
    rw[if_pos trivial,hb];rfl
   ·split <;>simp
   ·intro j hj
    split
    ·rfl
    ·rw[Array.getElem?_setIfInBounds_ne]
     intro e;exact hj ⟨rfl,e.symm⟩
  ·refine ⟨row,fr,?_,rfl,fun _ _=>rfl,.inl rfl⟩
   rw[RowKit.Below.heap_setCell _ _ _ _ h,hb]
 ·by_cases h:b=a.block
  ·subst h
   simp only[World.setCell,Array.getElem?_modify]
   rw[if_pos trivial,hb]
   cases o with
   | cells row e fr=>exact absurd rfl (ho row e fr)
   | _=>rfl
  ·rw[RowKit.Below.heap_setCell _ _ _ _ h,hb]
section
variable {w w':World} {Fz Fz':Nat→Prop} {Lt Lt':Nat→Nat→Prop} {g:Nat}
theorem R.lengths {ps ts vs fp} (h:R w Fz Lt g ps ts vs fp):ps.length=ts.length∧ts.length=vs.length:=by
 induction h <;>simp_all
theorem Ab.kept {W:Nat→Nat→Prop} (hx:Ab w w' W) {b:Nat} {row:Array Value} {e:TypeId} {fr:Nat × Nat} (hb:w.heap[b]?=some (.cells row e fr)) (hW:∀ j,j<row.size→¬ W b j) (h0:0<row.size):w'.heap[b]?=some (.cells row e fr):=by
 obtain ⟨row',fr',c1,c2,c3,c4⟩:=hx.cells b row e fr hb
 obtain rfl:fr'=fr:=c4.elim id fun x=>absurd (x.2 0 (Nat.zero_le _)) (hW 0 h0)
 have:row'=row:=by
  apply Array.ext_getElem?
  intro j
  by_cases hj:j<row.size
  ·exact c3 j (hW j hj)
  ·rw[Array.getElem?_eq_none (by omega),Array.getElem?_eq_none (by omega)]
 rw[c1,this]
theorem R.mono {W:Nat→Nat→Prop} {ps ts vs fp} (h:R w Fz Lt g ps ts vs fp) (hx:Ab w w' W)
  (hF:∀ b,Fz b→Fz' b) (hL:∀ b j,Lt b j→Lt' b j)
  (wF:∀ b j,Fz b→¬ W b j) (wL:∀ b j,Lt b j→¬ W b j)
  (hp:∀ f∈fp,(∀ j,f.lo≤j→(j<f.hi∨j=f.lo)→¬ W f.b j)∧¬ Fz' f.b∧∀ j,f.l≤j→¬ Lt' f.b j):R w' Fz' Lt' g ps ts vs fp:=by
 induction h with
 | nil=>exact .nil
 | leaf h _ ih=>exact .leaf h (ih hp)
 | dead _ ih=>exact .dead (ih hp)
 | slE h _ ih=>exact .slE h (ih hp)
 | @slS b off n cap row e fr el cs vs' ps ts vs fp h0 hb hz hn hs hr hi _ ih1 ih2 =>
   obtain ⟨row',fr',c1,c2,c3,c4⟩:=hx.cells b row e fr hb
   exact .slS h0 c1 (hF _ hz) hn (by rw[← hs];exact Aw fun j _ _=>c3 j (wF _ _ hz)) (by omega) (ih1 (by simp)) (ih2 hp)
 | @slL b off n cap row e fr el cs vs' ps ts vs fp h0 hb hl hn hs hr hi _ ih1 ih2 =>
   obtain ⟨row',fr',c1,c2,c3,c4⟩:=hx.cells b row e fr hb
   exact .slL h0 c1 (fun j a c=>hL _ _ (hl j a c)) hn (by rw[← hs];exact Aw fun j a c=>c3 j (wL _ _ (hl j a c))) (by omega) (ih1 (by simp)) (ih2 hp)
 | slX h _ ih=>exact .slX h (ih hp)
 | slH _ ih=>exact .slH (ih hp)
 | @slO b off n cap row e fr el cs vs' ps ts vs fp₁ fp₂ h0 hb hz hl hn hs hr hf hi _ ih1 ih2 =>
   obtain ⟨row',fr',c1,c2,c3,c4⟩:=hx.cells b row e fr hb
   have hq:=hp ⟨b,off,off+n * el.length,off+n * el.length,off+cap * el.length⟩ (by simp)
   have hfr:0<cap→fr'=fr:=fun hc=>c4.elim id fun x=>by
    have:0<cap * el.length:=Nat.mul_pos hc h0
    exact absurd (x.2 off (by omega)) (hq.1 off (Nat.le_refl _) (.inr rfl))
   refine .slO h0 c1 hq.2.1 hq.2.2 hn (by rw[← hs];exact Aw fun j a c=>c3 j (hq.1 j a (.inl c))) (by omega) (fun hc=>by rw[hfr hc];exact hf hc) (ih1 fun f hf=>hp f (by simp[hf])) (ih2 fun f hf=>hp f (by simp[hf]))
 | @rfS b off row e fr el cs vs' ps ts vs fp h0 hb hz hs hr hi _ ih1 ih2 =>
   obtain ⟨row',fr',c1,c2,c3,c4⟩:=hx.cells b row e fr hb
   exact .rfS h0 c1 (hF _ hz) (by rw[← hs];exact Aw fun j _ _=>c3 j (wF _ _ hz)) (by omega) (ih1 (by simp)) (ih2 hp)
 | @rfL b off row e fr el cs vs' ps ts vs fp h0 hb hl hs hr hi _ ih1 ih2 =>
   obtain ⟨row',fr',c1,c2,c3,c4⟩:=hx.cells b row e fr hb
   exact .rfL h0 c1 (fun j a c=>hL _ _ (hl j a c)) (by rw[← hs];exact Aw fun j a c=>c3 j (wL _ _ (hl j a c))) (by omega) (ih1 (by simp)) (ih2 hp)
 | @rfO b off row e fr el cs vs' ps ts vs fp₁ fp₂ h0 hb hz hl hs hr hf hi _ ih1 ih2 =>
   obtain ⟨row',fr',c1,c2,c3,c4⟩:=hx.cells b row e fr hb
   have hq:=hp ⟨b,off,off+el.length,0,off+el.length⟩ (by simp)
   obtain rfl:fr'=fr:=c4.elim id fun x=>absurd (x.2 off (by omega)) (hq.1 off (Nat.le_refl _) (.inr rfl))
   refine .rfO h0 c1 hq.2.1 (fun j=>hq.2.2 j (Nat.zero_le _)) (by rw[← hs];exact Aw fun j a c=>c3 j (hq.1 j a (.inl c))) (by omega) hf (ih1 fun f hf=>hp f (by simp[hf])) (ih2 fun f hf=>hp f (by simp[hf]))
 | rfX h _ ih=>exact .rfX h (ih hp)
 | fnv hi _ ih1 ih2=>exact .fnv (ih1 (by simp)) (ih2 hp)
 | mvE _ ih=>exact .mvE (ih hp)
 | mvX h _ _ ih1 ih2=>exact .mvX h (ih1 fun f hf=>hp f (by simp[hf])) (ih2 fun f hf=>hp f (by simp[hf]))
 | @mvO b off n cap row e fr el cs vs' ps ts vs fp₁ fp₂ h0 hb hl hs hr hi _ ih1 ih2 =>
   obtain ⟨row',fr',c1,c2,c3,c4⟩:=hx.cells b row e fr hb
   exact .mvO h0 c1 (fun j a c=>hL _ _ (hl j a c)) (by rw[← hs];exact Aw fun j a c=>c3 j (wL _ _ (hl j a c))) (by omega) (ih1 fun f hf=>hp f (by simp[hf])) (ih2 fun f hf=>hp f (by simp[hf]))
 | @bldN b T e p ps ts vs fp hb hpp hz hl _ ih =>
   have hq:=hp ⟨b,0,2,0,2⟩ (by simp)
   have c1:=hx.kept hb (fun j a=>hq.1 j (Nat.zero_le _) (.inl a)) (by simp)
   exact .bldN c1 hpp hq.2.1 (fun j=>hq.2.2 j (Nat.zero_le _)) (ih fun f hf=>hp f (by simp[hf]))
 | @bldO b T e p c n cap cur bs ps ts vs fp hb hpp hz hl hc hzc hlc h0 hn hm hcs hbs _ ih =>
   have hq:=hp ⟨b,0,2,0,2⟩ (by simp)
   have hq2:=hp ⟨c,0,cap,0,cap+1⟩ (by simp)
   have c1:=hx.kept hb (fun j a=>hq.1 j (Nat.zero_le _) (.inl a)) (by simp)
   have c2:=hx.kept hc (fun j a=>hq2.1 j (Nat.zero_le _) (.inl (by rw[← hcs];exact a))) (by omega)
   exact .bldO c1 hpp hq.2.1 (fun j=>hq.2.2 j (Nat.zero_le _)) c2 hq2.2.1 (fun j=>hq2.2.2 j (Nat.zero_le _)) h0 hn hm hcs hbs (ih fun f hf=>hp f (by simp[hf]))
theorem R.append {ps ts vs fp ps' ts' vs' fp'} (h:R w Fz Lt g ps ts vs fp) (k:R w Fz Lt g ps' ts' vs' fp') :
  R w Fz Lt g (ps++ps') (ts++ts') (vs++vs') (fp++fp'):=by
 induction h with
 | nil=>exact k
 | leaf h _ ih=>exact .leaf h ih
 | dead _ ih=>exact .dead ih
 | slE h _ ih=>exact .slE h ih
 | slS h0 hb hz hn hs hr hi _ _ ih=>exact .slS h0 hb hz hn hs hr hi ih
 | slL h0 hb hz hn hs hr hi _ _ ih=>exact .slL h0 hb hz hn hs hr hi ih
 | slX h _ ih=>exact .slX h ih
 | slH _ ih=>exact .slH ih
 | slO h0 hb hz hl hn hs hr hf hi _ _ ih =>
   have:=R.slO h0 hb hz hl hn hs hr hf hi ih
   simpa [append_assoc] using this
 | rfS h0 hb hz hs hr hi _ _ ih=>exact .rfS h0 hb hz hs hr hi ih
 | rfL h0 hb hz hs hr hi _ _ ih=>exact .rfL h0 hb hz hs hr hi ih
 | rfO h0 hb hz hl hs hr hf hi _ _ ih =>
   have:=R.rfO h0 hb hz hl hs hr hf hi ih
   simpa [append_assoc] using this
 | rfX h _ ih=>exact .rfX h ih
 | mvE _ ih=>exact .mvE ih
 | @mvX g' el t v n cs vs' ps ts vs fp₁ fp₂ h hi _ _ ih =>
   have:=R.mvX (t:=t) (v:=v) h hi ih
   simpa [append_assoc] using this
 | @mvO b off n cap row e fr el cs vs' ps ts vs fp₁ fp₂ h0 hb hl hs hr hi _ _ ih =>
   have:=R.mvO (cap:=cap) h0 hb hl hs hr hi ih
   simpa [append_assoc] using this
 | bldN hb hp hz hl _ ih=>exact .bldN hb hp hz hl ih
 | bldO hb hp hz hl hc hzc hlc h0 hn hm hcs hbs _ ih=>exact .bldO hb hp hz hl hc hzc hlc h0 hn hm hcs hbs ih
 | fnv hi _ _ ih=>exact .fnv hi ih
theorem R.split:∀ {ps ps' ts vs fp},R w Fz Lt g (ps++ps') ts vs fp →
  ∃ t1 t2 v1 v2 f1 f2,ts=t1++t2∧vs=v1++v2∧fp=f1++f2∧R w Fz Lt g ps t1 v1 f1∧R w Fz Lt g ps' t2 v2 f2
 | [],_,ts,vs,fp,h=>⟨[],ts,[],vs,[],fp,rfl,rfl,rfl,.nil,h⟩
 | p::ps,ps',ts,vs,fp,h=>by
   cases h with
   | leaf h r=>obtain ⟨t1,t2,v1,v2,f1,f2,rfl,rfl,rfl,a,b⟩:=R.split r;exact ⟨_::t1,t2,_::v1,v2,f1,f2,rfl,rfl,rfl,.leaf h a,b⟩
   | dead r=>obtain ⟨t1,t2,v1,v2,f1,f2,rfl,rfl,rfl,a,b⟩:=R.split r;exact ⟨_::t1,t2,_::v1,v2,f1,f2,rfl,rfl,rfl,.dead a,b⟩
   | slE h r=>obtain ⟨t1,t2,v1,v2,f1,f2,rfl,rfl,rfl,a,b⟩:=R.split r;exact ⟨_::t1,t2,_::v1,v2,f1,f2,rfl,rfl,rfl,.slE h a,b⟩
   | slS h0 hb hz hn hs hr hi r=>obtain ⟨t1,t2,v1,v2,f1,f2,rfl,rfl,rfl,a,b⟩:=R.split r;exact ⟨_::t1,t2,_::v1,v2,f1,f2,rfl,rfl,rfl,.slS h0 hb hz hn hs hr hi a,b⟩
   | slL h0 hb hz hn hs hr hi r=>obtain ⟨t1,t2,v1,v2,f1,f2,rfl,rfl,rfl,a,b⟩:=R.split r;exact ⟨_::t1,t2,_::v1,v2,f1,f2,rfl,rfl,rfl,.slL h0 hb hz hn hs hr hi a,b⟩
   | slX h r=>obtain ⟨t1,t2,v1,v2,f1,f2,rfl,rfl,rfl,a,b⟩:=R.split r;exact ⟨_::t1,t2,_::v1,v2,f1,f2,rfl,rfl,rfl,.slX h a,b⟩
   | slH r=>obtain ⟨t1,t2,v1,v2,f1,f2,rfl,rfl,rfl,a,b⟩:=R.split r;exact ⟨_::t1,t2,_::v1,v2,f1,f2,rfl,rfl,rfl,.slH a,b⟩
   | slO h0 hb hz hl hn hs hr hf hi r =>
     obtain ⟨t1,t2,v1,v2,f1,f2,rfl,rfl,rfl,a,b⟩:=R.split r
     exact ⟨_::t1,t2,_::v1,v2,_,f2,rfl,rfl,by simp[append_assoc],.slO h0 hb hz hl hn hs hr hf hi a,b⟩
   | rfS h0 hb hz hs hr hi r=>obtain ⟨t1,t2,v1,v2,f1,f2,rfl,rfl,rfl,a,b⟩:=R.split r;exact ⟨_::t1,t2,_::v1,v2,f1,f2,rfl,rfl,rfl,.rfS h0 hb hz hs hr hi a,b⟩
   | rfL h0 hb hz hs hr hi r=>obtain ⟨t1,t2,v1,v2,f1,f2,rfl,rfl,rfl,a,b⟩:=R.split r;exact ⟨_::t1,t2,_::v1,v2,f1,f2,rfl,rfl,rfl,.rfL h0 hb hz hs hr hi a,b⟩
   | rfO h0 hb hz hl hs hr hf hi r =>
     obtain ⟨t1,t2,v1,v2,f1,f2,rfl,rfl,rfl,a,b⟩:=R.split r
     exact ⟨_::t1,t2,_::v1,v2,_,f2,rfl,rfl,by simp[append_assoc],.rfO h0 hb hz hl hs hr hf hi a,b⟩
   | rfX h r=>obtain ⟨t1,t2,v1,v2,f1,f2,rfl,rfl,rfl,a,b⟩:=R.split r;exact ⟨_::t1,t2,_::v1,v2,f1,f2,rfl,rfl,rfl,.rfX h a,b⟩
   | mvE r=>obtain ⟨t1,t2,v1,v2,f1,f2,rfl,rfl,rfl,a,b⟩:=R.split r;exact ⟨_::t1,t2,_::v1,v2,f1,f2,rfl,rfl,rfl,.mvE a,b⟩
   | mvX h hi r=>obtain ⟨t1,t2,v1,v2,f1,f2,rfl,rfl,rfl,a,b⟩:=R.split r;exact ⟨_::t1,t2,_::v1,v2,_,f2,rfl,rfl,by simp[append_assoc],.mvX h hi a,b⟩
   | mvO h0 hb hl hs hr hi r=>obtain ⟨t1,t2,v1,v2,f1,f2,rfl,rfl,rfl,a,b⟩:=R.split r;exact ⟨_::t1,t2,_::v1,v2,_,f2,rfl,rfl,by simp[append_assoc],.mvO h0 hb hl hs hr hi a,b⟩
   | bldN hb hp hz hl r=>obtain ⟨t1,t2,v1,v2,f1,f2,rfl,rfl,rfl,a,b⟩:=R.split r;exact ⟨_::t1,t2,_::v1,v2,_::f1,f2,rfl,rfl,rfl,.bldN hb hp hz hl a,b⟩
   | bldO hb hp hz hl hc hzc hlc h0 hn hm hcs hbs r=>obtain ⟨t1,t2,v1,v2,f1,f2,rfl,rfl,rfl,a,b⟩:=R.split r;exact ⟨_::t1,t2,_::v1,v2,_::_::f1,f2,rfl,rfl,rfl,.bldO hb hp hz hl hc hzc hlc h0 hn hm hcs hbs a,b⟩
   | fnv hi r=>obtain ⟨t1,t2,v1,v2,f1,f2,rfl,rfl,rfl,a,b⟩:=R.split r;exact ⟨_::t1,t2,_::v1,v2,f1,f2,rfl,rfl,rfl,.fnv hi a,b⟩
theorem R.length_eq {ps ts vs fp} (h:R w Fz Lt g ps ts vs fp):ts.length=ps.length∧vs.length=ps.length:=by
 have:=h.lengths;omega
theorem R.lt {ps ts vs fp} (h:R w Fz Lt g ps ts vs fp):∀ f∈fp,f.b<w.heap.size∧f.lo≤f.hi∧f.hi≤f.t∧¬ Fz f.b:=by
 have key:∀ {b:Nat} {o},w.heap[b]?=some o→b<w.heap.size:=by
  intro b o hb
  rcases Nat.lt_or_ge b w.heap.size with h | h
  ·exact h
  ·simp[Array.getElem?_eq_none h] at hb
 induction h with
 | nil=>simp
 | slO h0 hb hz hl hn hs hr hf hi _ ih1 ih2 =>
   intro f hf'
   simp only[cons_append,mem_cons,mem_append] at hf'
   rcases hf' with rfl | hf' | hf'
   ·exact ⟨key hb,Nat.le_add_right _ _,Nat.add_le_add_left (Nat.mul_le_mul_right _ hn) _,hz⟩
   ·exact ih1 f hf'
   ·exact ih2 f hf'
 | rfO h0 hb hz hl hs hr hf hi _ ih1 ih2 =>
   intro f hf'
   simp only[cons_append,mem_cons,mem_append] at hf'
   rcases hf' with rfl | hf' | hf'
   ·exact ⟨key hb,Nat.le_add_right _ _,Nat.le_refl _,hz⟩
   ·exact ih1 f hf'
   ·exact ih2 f hf'
 | leaf _ _ ih=>exact ih
 | dead _ ih=>exact ih
 | slE _ _ ih=>exact ih
 | slS _ _ _ _ _ _ _ _ _ ih=>exact ih
 | slL _ _ _ _ _ _ _ _ _ ih=>exact ih
 | slX _ _ ih=>exact ih
 | slH _ ih=>exact ih
 | rfS _ _ _ _ _ _ _ _ ih=>exact ih
 | rfL _ _ _ _ _ _ _ _ ih=>exact ih
 | rfX _ _ ih=>exact ih
 | mvE _ ih=>exact ih
 | mvX _ _ _ ih1 ih2 =>
   intro f hf'
   rcases mem_append.1 hf' with hf' | hf'
   ·exact ih1 f hf'
   ·exact ih2 f hf'
 | mvO _ _ _ _ _ _ _ ih1 ih2 =>
   intro f hf'
   rcases mem_append.1 hf' with hf' | hf'
   ·exact ih1 f hf'
   ·exact ih2 f hf'
 | bldN hb _ hz _ _ ih =>
   intro f hf'
   rcases mem_cons.1 hf' with rfl | hf'
   ·exact ⟨key hb,Nat.zero_le _,Nat.le_refl _,hz⟩
   ·exact ih f hf'
 | bldO hb _ hz _ hc hzc _ _ _ _ _ _ _ ih =>
   intro f hf'
   simp only[mem_cons] at hf'
   rcases hf' with rfl | rfl | hf'
   ·exact ⟨key hb,Nat.zero_le _,Nat.le_refl _,hz⟩
   ·exact ⟨key hc,Nat.zero_le _,Nat.le_succ _,hzc⟩
   ·exact ih f hf'
 | fnv _ _ _ ih=>exact ih
theorem R.noLtAbove {ps ts vs fp} (h:R w Fz Lt g ps ts vs fp):∀ f∈fp,∀ j,f.l≤j→¬ Lt f.b j:=by
 induction h with
 | nil=>simp
 | slO h0 hb hz hl hn hs hr hf hi _ ih1 ih2 =>
   intro f hf'
   simp only[cons_append,mem_cons,mem_append] at hf'
   rcases hf' with rfl | hf' | hf'
   ·exact hl
   ·exact ih1 f hf'
   ·exact ih2 f hf'
 | rfO h0 hb hz hl hs hr hf hi _ ih1 ih2 =>
   intro f hf'
   simp only[cons_append,mem_cons,mem_append] at hf'
   rcases hf' with rfl | hf' | hf'
   ·exact fun j _=>hl j
   ·exact ih1 f hf'
   ·exact ih2 f hf'
 | leaf _ _ ih=>exact ih
 | dead _ ih=>exact ih
 | slE _ _ ih=>exact ih
 | slS _ _ _ _ _ _ _ _ _ ih=>exact ih
 | slL _ _ _ _ _ _ _ _ _ ih=>exact ih
 | slX _ _ ih=>exact ih
 | slH _ ih=>exact ih
 | rfS _ _ _ _ _ _ _ _ ih=>exact ih
 | rfL _ _ _ _ _ _ _ _ ih=>exact ih
 | rfX _ _ ih=>exact ih
 | mvE _ ih=>exact ih
 | mvX _ _ _ ih1 ih2 =>
   intro f hf'
   rcases mem_append.1 hf' with hf' | hf'
   ·exact ih1 f hf'
   ·exact ih2 f hf'
 | mvO _ _ _ _ _ _ _ ih1 ih2 =>
   intro f hf'
   rcases mem_append.1 hf' with hf' | hf'
   ·exact ih1 f hf'
   ·exact ih2 f hf'
 | bldN _ _ _ hl _ ih =>
   intro f hf'
   rcases mem_cons.1 hf' with rfl | hf'
   ·exact fun j _=>hl j
   ·exact ih f hf'
 | bldO _ _ _ hl _ _ hlc _ _ _ _ _ _ ih =>
   intro f hf'
   simp only[mem_cons] at hf'
   rcases hf' with rfl | rfl | hf'
   ·exact fun j _=>hl j
   ·exact fun j _=>hlc j
   ·exact ih f hf'
 | fnv _ _ _ ih=>exact ih
end
mutual
def Pm.noOwn:Pm→Bool
 | .leaf=>true
 | .dead=>true
 | .sl .own _=>false
 | .sl .shr el=>noOwns el
 | .sl (.lent _) el=>noOwns el
 | .rf .own _=>false
 | .rf .shr el=>noOwns el
 | .rf (.lent _) el=>noOwns el
 | .fn caps=>noOwns caps
 | .mv _ _=>false
 | .bld _ _=>false
def noOwns:List Pm→Bool
 | []=>true
 | p::ps=>p.noOwn&&noOwns ps
end
mutual
def Pm.noLent:Pm→Bool
 | .leaf=>true
 | .dead=>true
 | .sl (.lent _) _=>false
 | .sl .own el=>noLents el
 | .sl .shr el=>noLents el
 | .rf (.lent _) _=>false
 | .rf .own el=>noLents el
 | .rf .shr el=>noLents el
 | .fn caps=>noLents caps
 | .mv _ _=>false
 | .bld _ _=>true
def noLents:List Pm→Bool
 | []=>true
 | p::ps=>p.noLent&&noLents ps
end
mutual
def Pm.share:Pm→Pm
 | .leaf => .leaf
 | .dead => .dead
 | .sl (.lent _) _ => .dead
 | .sl _ el => .sl .shr (shares el)
 | .rf (.lent _) _ => .dead
 | .rf _ el => .rf .shr (shares el)
 | .fn caps => .fn (shares caps)
 | .mv _ _ => .dead
 | .bld _ _ => .dead
def shares:List Pm→List Pm
 | []=>[]
 | p::ps=>p.share::shares ps
end
mutual
def Pm.shareG (g:Nat):Pm→Pm
 | .leaf => .leaf
 | .dead => .dead
 | .sl (.lent g') el=>if g'=g then .sl .shr (sharesG g el) else .dead
 | .sl _ el => .sl .shr (sharesG g el)
 | .rf (.lent g') el=>if g'=g then .rf .shr (sharesG g el) else .dead
 | .rf _ el => .rf .shr (sharesG g el)
 | .fn caps => .fn (sharesG g caps)
 | .mv _ _ => .dead
 | .bld _ _ => .dead
def sharesG (g:Nat):List Pm→List Pm
 | []=>[]
 | p::ps=>p.shareG g::sharesG g ps
end
mutual
def Pm.lentify (g:Nat):Pm→Pm
 | .leaf => .leaf
 | .dead => .dead
 | .sl .own el => .sl (.lent g) (lentifies g el)
 | .sl .shr el => .sl .shr el
 | .sl (.lent g') el => .sl (.lent g') el
 | .rf .own _ => .dead
 | .rf .shr el => .rf .shr el
 | .rf (.lent g') el => .rf (.lent g') el
 | .fn caps => .fn caps
 | .mv _ _ => .dead
 | .bld _ _ => .dead
def lentifies (g:Nat):List Pm→List Pm
 | []=>[]
 | p::ps=>p.lentify g::lentifies g ps
end
def Fl.beq:Fl→Fl→Bool
 | .own,.own=>true
 | .shr,.shr=>true
 | .lent a,.lent b=>a==b
 | _,_=>false
mutual
def Pm.beq:Pm→Pm→Bool
 | .leaf,.leaf=>true
 | .dead,.dead=>true
 | .sl f a,.sl f' b=>f.beq f'&&pbeqs a b
 | .rf f a,.rf f' b=>f.beq f'&&pbeqs a b
 | .fn a,.fn b=>pbeqs a b
 | .bld a b,.bld c d=>Nat.beq a c&&Nat.beq b d
 | _,_=>false
def pbeqs:List Pm→List Pm→Bool
 | [],[]=>true
 | p::ps,q::qs=>p.beq q&&pbeqs ps qs
 | _,_=>false
end
def Pm.firm (g:Nat):Pm→Bool
 | .dead=>false
 | .sl (.lent g') _=>g'==g
 | .rf (.lent g') _=>g'==g
 | .mv _ _=>false
 | _=>true
def Fl.live (g:Nat):Fl→Bool
 | .lent g'=>g'==g
 | _=>true
def Al (g:Nat):List Pm→Bool
 | []=>true
 | p::ps=>p.firm g&&Al g ps
def BL:List Nat→Bool
 | []=>true
 | x::xs => !(xs.any fun y=>x==y)&&BL xs
structure V where
 agg:Bool
 p:List Pm
 cs:List T
abbrev CE:=List (List Nat × Nat × Nat)
structure AO where
 path:List (Nat × Nat)
 e:Nat
 c:Nat
 n:Nat
 agg:Bool
inductive AA where
 | dead
 | und
 | gone
 | val (agg:Bool) (p:List Pm) (cs:List T) (d:CE) (pin:Nat)
 | tup (n:Nat)
 | box (p:List Pm) (cs:List T) (d:CE) (pin:Nat)
 | view (k:Nat) (pl:AO)
 | ptr (k:Nat) (pl:AO)
 | clo (f:Nat) (caps:List (Nat × AO))
def ix (sz e c:Nat):Nat:=match sz with
 | 1=>e
 | _=>e * sz+c
def CG (cs:List T) (i:Nat):Nat→Option (List T)
 | 0=>some []
 | n+1=>match cs[i]? with
   | none=>none
   | some t=>match CG cs (i+1) n with
     | none=>none
     | some r=>some (t::r)
def Aj (cs:List T) (i:Nat):List T→List T
 | []=>cs
 | t::ts=>Aj (cs.set i t) (i+1) ts
def rowAt:List Pm→List T→List (Nat × Nat)→Option (List Pm × List T)
 | ps,cs,[]=>some (ps,cs)
 | ps,cs,(e,c)::path=>match ps[c]? with
   | some (.sl .own el)=>match cs[ix ps.length e c]? with
     | some (.lst _ cs')=>rowAt el cs' path
     | _=>none
   | _=>none
def Ah:List Pm→List T→List (Nat × Nat)→(List T→List T)→List T
 | _,cs,[],f=>f cs
 | ps,cs,(e,c)::path,f=>match ps[c]? with
   | some (.sl .own el)=>match cs[ix ps.length e c]? with
     | some (.lst n cs')=>cs.set (ix ps.length e c) (.lst n (Ah el cs' path f))
     | _=>cs
   | _=>cs
def BO (ps:List Pm) (c:Nat):Nat→Option (List Pm)
 | 0=>some []
 | n+1=>match ps[c]? with
   | none=>none
   | some t=>match BO ps (c+1) n with
     | none=>none
     | some r=>some (t::r)
def BH (ps:List Pm) (c:Nat):List Pm→List Pm
 | []=>ps
 | t::ts=>BH (ps.set c t) (c+1) ts
def atPlace (ps:List Pm) (cs:List T) (pl:AO):Option V :=
 match rowAt ps cs pl.path with
 | none=>none
 | some (el,rcs)=>match BO el pl.c pl.n with
   | none=>none
   | some p=>match CG rcs (ix el.length pl.e pl.c) pl.n with
     | none=>none
     | some c=>some ⟨pl.agg,p,c⟩
def Dx (path:List (Nat × Nat)):List Nat:=path.map (·.2)
def Cj:CE→Bool
 | []=>false
 | ([],_,_)::_=>true
 | _::d=>Cj d
def Bq:CE→Bool
 | []=>false
 | ([],_,m)::d=>Nat.ble 1000000 m||Bq d
 | _::d=>Bq d
def CY (d:CE) (pl:AO):Bool:=match pl.path with
 | []=>Cj d
 | _ => !d.isEmpty
def BF (d:CE) (pl:AO):Bool:=match pl.path with
 | []=>Bq d
 | [_]=>Cj d
 | _ => !d.isEmpty
def AA.root:AA→Option (List Pm × List T × CE)
 | .val _ p cs d _=>some (p,cs,d)
 | .box p cs d _=>some (p,cs,d)
 | _=>none
def AA.looks:AA→List Nat
 | .view k _=>[k]
 | .ptr k _=>[k]
 | .clo _ caps=>caps.map (·.1)
 | _=>[]
def AA.withRoot (p:List Pm) (cs:List T) (d:CE):AA→AA
 | .val a _ _ _ pin => .val a p cs d pin
 | .box _ _ _ pin => .box p cs d pin
 | s=>s
def AA.pinned:AA→Bool
 | .val _ _ _ _ 0=>false
 | .box _ _ _ 0=>false
 | .val _ _ _ _ _=>true
 | .box _ _ _ _=>true
 | _=>false
structure AS where
 env:List (Nat × AA)
 g:Nat
def AE:List (Nat × AA)→Nat→AA
 | [],_ => .dead
 | (j,s)::r,k=>if j=k then s else AE r k
inductive Kd where
 | int (k:IntKind)
 | flt (k:FloatKind)
 | bool
 | str
 | slc (e:Nat)
 | ptr (e:Nat)
 | st (fs:List (Nat × Nat))
 | other
structure TD where
 agg:Bool
 sz:Nat
 bytes:Nat
 own:List Pm
 zero:List T
 kd:Kd
inductive BX where
 | val
 | io
 | iop
structure Am where
 m:BX
 v:V
structure By where
 rs:List V
 outs:List (Option V)
inductive FD where
 | code (c:Code) (modes:List BX) (outs:List Nat) (results:List (Nat × Option (Bool × Nat))) (keep:List (Nat × List Nat))
 | ext (g:List T→Option (List (Bool × List Pm × List T)))
 | sem (ms:List BX) (h:List Am→Option By)
structure AX where
 ty:Nat→Option TD
 fn:Nat→Option FD
 laid:List String
inductive Ro where
 | con (v:Value)
 | fnc (f:Nat)
 | slot (t:Nat) (s root:AA)
 | tup (t:Nat) (cs:List AA)
 | part (t i:Nat) (s c:AA)
 | clo (t f:Nat) (caps:List (Nat × AO × AA))
 | v (v:V)
 | bad
def AF (t i:Nat):Nat:=1000000+16 * t+i
def G6:Nat→List Nat
 | 0=>[]
 | n+1=>G6 n++[n]
def AB (env:List (Nat × AA)):Operand→Ro
 | .const v => .con v
 | .func f => .fnc f
 | .global _ => .bad
 | .tmp t=>match AE env t with
   | .view k pl => .slot t (.view k pl) (AE env k)
   | .ptr k pl => .slot t (.ptr k pl) (AE env k)
   | .clo f caps => .clo t f (caps.map fun c=>(c.1,c.2,AE env c.1))
   | .tup n => .tup t ((G6 n).map fun i=>AE env (AF t i))
   | s => .slot t s .dead
def AQ (env:List (Nat × AA)):Op→List Ro
 | .extract (.tmp t) i=>[.part t i (AE env t) (AE env (AF t i))]
 | op=>op.operands.toList.map (AB env)
def Ro.foot:Ro→List Nat
 | .slot t (.view k _) _=>[t,k]
 | .slot t (.ptr k _) _=>[t,k]
 | .slot t _ _=>[t]
 | .tup t cs=>t::(G6 cs.length).map (AF t)
 | .part t i _ _=>[t,AF t i]
 | .clo t _ caps=>t::caps.map (·.1)
 | _=>[]
def constT:Value→Option T
 | .int k n=>some (.int k n)
 | .bool b=>some (.bool b)
 | .float k b=>some (.flt k (Af k b))
 | .string s=>some (.str s.data.toList)
 | .slice none 0 0=>some (.lst 0 [])
 | .pointer none=>some .nil
 | .nilFunc=>some .nil
 | .nilIface=>some .nil
 | _=>none
def Ck:List Value→Option (List T)
 | []=>some []
 | v::vs=>match constT v with
   | none=>none
   | some t=>match Ck vs with
     | none=>none
     | some r=>some (t::r)
def FM:List Pm→List T→Bool
 | [],[]=>true
 | .leaf::ps,t::ts=>(match t with
   | .lst _ _=>false
   | .ref _=>false
   | .fn _ _=>false
   | _=>true)&&FM ps ts
 | .sl .own _::ps,.lst 0 []::ts=>FM ps ts
 | _,_=>false
def JZ (E:AX) (ty:Nat):Value→Option V
 | .agg vs=>match E.ty ty with
   | none=>none
   | some d=>match Ck vs.toList with
     | none=>none
     | some ts=>if FM d.own ts then some ⟨true,d.own,ts⟩ else none
 | v=>match constT v with
   | none=>none
   | some (.lst n cs)=>match E.ty ty with
     | some d=>match d.own with
       | [.sl .own el]=>some ⟨false,[.sl .own el],[.lst n cs]⟩
       | _=>none
     | none=>none
   | some t=>some ⟨false,[.leaf],[t]⟩
def AV (E:AX) (ty:Nat):Ro→Option V
 | .con v=>JZ E ty v
 | .slot _ (.val a p cs _ _) _=>some ⟨a,p,cs⟩
 | .slot _ (.view _ pl) root=>match root.root with
   | none=>none
   | some (p,cs,d)=>if CY d pl then none else atPlace p cs pl
 | .v v=>some v
 | .fnc f=>some ⟨false,[.fn []],[.fn f []]⟩
 | _=>none
def As (E:AX) (ty:Nat) (r:Ro):Option T :=
 match AV E ty r with
 | some ⟨false,[.leaf],[t]⟩=>some t
 | _=>none
def PL (k:FloatKind) (r:Option Nat):T:=.flt k (match r with
 | some b=>b
 | none=>E5 k)
def intBits (op:BinOp) (k:IntKind) (x y:Int):Int :=
 let a:=BitVec.ofInt k.bits x
 let b:=BitVec.ofInt k.bits y
 k.wrap (match op with
  | .and=>(a &&& b).toNat
  | .or=>(a ||| b).toNat
  | .xor=>(a ^^^ b).toNat
  | _=>(a &&& ~~~b).toNat)
def BK (op:BinOp):T→T→Option T
 | .int k x,.int k' y =>
   match op with
   | .shl=>if 0≤y then some (.int k (k.wrap (x * 2 ^ min y.toNat k.bits))) else none
   | .shr=>if 0≤y then some (.int k (x.fdiv (2 ^ min y.toNat k.bits))) else none
   | op=>if k=k' then (match op with
     | .add=>some (.int k (k.wrap (x+y)))
     | .sub=>some (.int k (k.wrap (x - y)))
     | .mul=>some (.int k (k.wrap (x * y)))
     | .quo=>if y=0 then none else some (.int k (k.wrap (x.tdiv y)))
     | .rem=>if y=0 then none else some (.int k (x.tmod y))
     | .and=>some (.int k (intBits .and k x y))
     | .or=>some (.int k (intBits .or k x y))
     | .xor=>some (.int k (intBits .xor k x y))
     | .andNot=>some (.int k (intBits .andNot k x y))
     | .eql=>some (.bool (x==y))
     | .neq=>some (.bool (x != y))
     | .lss=>some (.bool (decide (x<y)))
     | .leq=>some (.bool (decide (x≤y)))
     | .gtr=>some (.bool (decide (x>y)))
     | .geq=>some (.bool (decide (x≥y)))
     | _=>none) else none
 | .bool x,.bool y=>match op with
    | .eql=>some (.bool (x==y))
    | .neq=>some (.bool (!(x==y)))
    | _=>none
 | .flt k x,.flt k' y=>if k=k' then (match op with
    | .add=>some (PL k (k.format.add x y))
    | .sub=>some (PL k (k.format.sub x y))
    | .mul=>some (PL k (k.format.mul x y))
    | .quo=>some (PL k (k.format.div x y))
    | .eql=>some (.bool (k.format.order x y==some .eq))
    | .neq=>some (.bool (k.format.order x y != some .eq))
    | .lss=>some (.bool (k.format.order x y==some .lt))
    | .leq=>some (.bool (k.format.order x y==some .lt||k.format.order x y==some .eq))
    | .gtr=>some (.bool (k.format.order x y==some .gt))
    | .geq=>some (.bool (k.format.order x y==some .gt||k.format.order x y==some .eq))
    | _=>none) else none
 | .str a,.str b=>match op with
    | .add=>if a.length+b.length≤4611686018427387904 then some (.str (a++b)) else none
    | .eql=>some (.bool (a==b))
    | .neq=>some (.bool (!(a==b)))
    | .lss=>some (.bool (Op.bytesLess a b))
    | .leq=>some (.bool (Op.bytesLess a b||a==b))
    | .gtr=>some (.bool (!(Op.bytesLess a b||a==b)))
    | .geq=>some (.bool (!(Op.bytesLess a b)))
    | _=>none
 | .opq,.int .u64 c=>match op with
    | .andNot=>if c=9223372036854775808 then some .opq else none
    | _=>none
 | _,_=>none
def R5 (k:FloatKind) (x:Nat):Nat:=if isNaN k x then E5 k else x ^^^ 2 ^ (k.format.exponentBits+k.format.fractionBits)
def Q5 (op:UnOp):T→Option T
 | .bool b=>match op with
   | .not=>some (.bool (!b))
   | _=>none
 | .int k n=>match op with
   | .neg=>some (.int k (k.wrap (0 - n)))
   | _=>none
 | .flt k x=>match op with
   | .neg=>some (.flt k (R5 k x))
   | _=>none
 | _=>none
def HE (src:FloatKind) (x:Nat) (dst:FloatKind):Option Nat :=
 if src=dst then some x else
 match src.decode x with
 | .nan _ _=>some (E5 dst)
 | .infinity s=>some (dst.encode (.infinity s))
 | .number s m e=>if (dst.decode (dst.encode (.number s m e))).isInfinity then none else some (dst.encode (.number s m e))
def Eb (src:FloatKind) (x:Nat) (dst:IntKind):Option Int :=
 match (src.decode x).toInt .zero with
 | some n=>if dst.min≤n∧n≤dst.max then some n else none
 | none=>none
def Ib:Kd→T→Option T
 | .int k,.int _ n=>some (.int k (k.wrap n))
 | .flt k,.int _ n=>some (.flt k (k.nearest n))
 | .int k,.flt s x=>match Eb s x k with
   | some n=>some (.int k n)
   | none=>none
 | .flt k,.flt s x=>match HE s x k with
   | some y=>some (.flt k y)
   | none=>none
 | .str,.str s=>some (.str s)
 | _,_=>none
structure A9 where
 ups:List (Nat × AA)
 g:Option Nat
def Q3:Nat:=2147483648
def ES (p:List Pm) (agg:Bool):AO:=⟨[],0,0,p.length,agg⟩
def AL (o:Oper) (s:AA):List (Nat × AA):=match o.dst with
 | some d=>[(d,s)]
 | none=>[]
def Qz (v:V):AA:=.val v.agg v.p v.cs [] 0
def A1:Ro→Option (Nat × AO × AA)
 | .slot _ (.ptr k pl) root=>match root.root with
   | none=>none
   | some (_,_,d)=>if BF d pl then none else some (k,pl,root)
 | .slot t (.box p cs d pin) _=>some (t,ES p false,.box p cs d pin)
 | _=>none
def BD:CE:=[([],0,1000000)]
def Qo (g:Nat) (ps:List Pm) (c n:Nat):List Pm:=match BO ps c n with
 | none=>ps
 | some q=>BH ps c (lentifies g q)
def I7 (pinned:Bool) (g:Nat) (ps:List Pm) (c n:Nat):List Pm:=match pinned with
 | true=>BH ps c (List.replicate n .dead)
 | false=>Qo g ps c n
def Bn:List Pm→List T→Option (List T)
 | [],[]=>some []
 | .sl .own _::ps,_::ts=>match Bn ps ts with
   | none=>none
   | some r=>some (.nil::r)
 | .leaf::ps,t::ts=>match Bn ps ts with
   | none=>none
   | some r=>some (t::r)
 | .sl .shr _::ps,t::ts=>match Bn ps ts with
   | none=>none
   | some r=>some (t::r)
 | _,_=>none
def Ap:List Pm→Bool
 | []=>true
 | .leaf::ps=>Ap ps
 | .sl .own _::ps=>Ap ps
 | .sl .shr _::ps=>Ap ps
 | _=>false
def Ml:List Pm→List T→List T
 | .sl .own _::ps,_::ts => .nil::Ml ps ts
 | _::ps,t::ts=>t::Ml ps ts
 | _,_=>[]
def DY (el:List Pm) (l m:Nat) (cs:List T):List T :=
 cs.take (l * el.length)++(Ml (rep m el) ((cs.drop (l * el.length)).take (m * el.length))++cs.drop (l * el.length+m * el.length))
def FL (E:AX) (g:Nat) (ty:Nat) (r:Ro):Option (V × List (Nat × AA)) :=
 match AV E ty r with
 | none=>none
 | some v=>if !Al g v.p then none else if noOwns v.p then some (v,[]) else
   match r with
   | .slot t (.val _ _ _ _ 0) _=>some (v,[(t,.gone)])
   | .slot _ (.view k pl) root=>match pl.path with
     | []=>match root.root with
       | none=>none
       | some (p,cs,d)=>some (v,[(k,root.withRoot (I7 root.pinned g p pl.c pl.n) cs (([],pl.c,pl.n)::d))])
     | path=>if Nat.ble pl.n 0 then none else match root.root with
       | none=>none
       | some (p,cs,d)=>match rowAt p cs path with
         | none=>none
         | some (el,_)=>match Bn v.p v.cs with
           | none=>none
           | some hs=>some (v,[(k,root.withRoot p (Ah p cs path fun rcs=>Aj rcs (ix el.length pl.e pl.c) hs) ((Dx path,pl.c,pl.n)::d))])
   | .con _=>some (v,[])
   | _=>none
def LP (ps:List Pm) (place:Nat→Option (Nat × Nat)) (cells:List T):List (Nat × V)→Option (List T)
 | []=>some cells
 | (i,v)::rest=>match place i with
   | none=>none
   | some (off,size)=>match BO ps (match ps.length with | 0=>0 | n=>off % n) size with
     | none=>none
     | some q=>if v.cs.length=size&&pbeqs v.p q&&Nat.ble (off+size) cells.length
       then LP ps place (Aj cells off v.cs) rest else none
def CI (E:AX) (g:Nat) (tys:Nat→Option Nat):List (Nat × Ro)→Option (List (Nat × V) × List (Nat × AA))
 | []=>some ([],[])
 | (i,r)::rest=>match tys i with
   | none=>none
   | some ty=>match FL E g ty r with
     | none=>none
     | some (v,u)=>match CI E g tys rest with
       | none=>none
       | some (vs,us)=>some ((i,v)::vs,u++us)
def reps (n:Nat) (cs:List T):List T:=(List.replicate n cs).flatten
def CH (t:Nat):Nat→List AA→List (Nat × AA)
 | _,[]=>[]
 | i,c::cs=>(AF t i,c)::CH t (i+1) cs
def AA.plain:AA→Bool
 | .val _ _ _ _ 0=>true
 | .box _ _ _ 0=>true
 | .gone=>true
 | .dead=>true
 | _=>false
def BW (E:AX) (o:Oper) (r:Ro):Option A9 :=
 match r with
 | .con v=>match JZ E o.type v with
   | none=>none
   | some v=>some ⟨AL o (Qz v),none⟩
 | .slot t s _=>match s with
   | .val a p cs _ _=>if noOwns p then some ⟨AL o (.val a p cs [] 0),none⟩ else some ⟨AL o (.view t (ES p a)),none⟩
   | .box p _ _ _=>some ⟨AL o (.ptr t (ES p false)),none⟩
   | .view k pl=>some ⟨AL o (.view k pl),none⟩
   | .ptr k pl=>some ⟨AL o (.ptr k pl),none⟩
   | _=>none
 | .clo _ f caps=>some ⟨AL o (.clo f (caps.map fun c=>(c.1,c.2.1))),none⟩
 | .tup t cs=>match o.dst with
   | none=>none
   | some d=>if d=t||Nat.ble 16 cs.length || !(cs.all AA.plain) then none else some ⟨(d,.tup cs.length)::(t,.gone)::(CH d 0 cs++CH t 0 (cs.map fun _ => .gone)),none⟩
 | _=>none
def R9 (ps:List Pm) (c n:Nat):List Pm:=BH ps c (List.replicate n .dead)
def C4 (E:AX) (o:Oper) (r:Ro) (old:AA):Option A9 :=
 if old.pinned then none else
 match o.dst with
 | none=>none
 | some dst=>match r with
   | .con v=>match JZ E o.type v with
     | none=>none
     | some v=>some ⟨[(dst,.val v.agg v.p v.cs BD 0)],none⟩
   | .slot t s root=>if t=dst then none else match s with
     | .val a p cs _ pin=>if noOwns p then some ⟨[(dst,.val a p cs BD 0)],none⟩ else
       if pin != 0 then none else some ⟨[(dst,.val a p cs BD 0),(t,.view dst (ES p a))],none⟩
     | .box p cs _ pin=>if pin != 0 then none else some ⟨[(dst,.box p cs BD 0),(t,.ptr dst (ES p false))],none⟩
     | .view k pl=>if k=dst then none else match root with
       | .val a p cs d pin=>if pin != 0||CY d pl then none else match pl.path with
         | []=>if pl.e=0&&pl.c=0&&pl.n=p.length then some ⟨[(dst,.val pl.agg p cs BD 0),(k,.view dst (ES p pl.agg))],none⟩ else none
         | path=>if Nat.ble pl.n 0 then none else match atPlace p cs pl with
           | none=>none
           | some v=>match rowAt p cs path with
             | none=>none
             | some (el,_)=>match Bn v.p v.cs with
               | none=>none
               | some hs=>some ⟨[(dst,.val v.agg v.p v.cs BD 0),(k,root.withRoot p (Ah p cs path fun rcs=>Aj rcs (ix el.length pl.e pl.c) hs) ((Dx path,pl.c,pl.n)::d))],none⟩
       | .box p cs d _=>if CY d pl then none else match pl.path with
         | []=>none
         | path=>if Nat.ble pl.n 0 then none else match atPlace p cs pl with
           | none=>none
           | some v=>match rowAt p cs path with
             | none=>none
             | some (el,_)=>match Bn v.p v.cs with
               | none=>none
               | some hs=>some ⟨[(dst,.val v.agg v.p v.cs BD 0),(k,root.withRoot p (Ah p cs path fun rcs=>Aj rcs (ix el.length pl.e pl.c) hs) ((Dx path,pl.c,pl.n)::d))],none⟩
       | _=>none
     | .ptr k pl=>if k=dst then none else some ⟨[(dst,.ptr k pl)],none⟩
     | _=>none
   | .clo _ f caps=>some ⟨[(dst,.clo f (caps.map fun c=>(c.1,c.2.1)))],none⟩
   | _=>none
def Qg (E:AX) (g:Nat) (o:Oper) (elem:Nat) (r:Ro):Option A9 :=
 match AV E elem r with
 | none=>none
 | some v=>match E.ty elem with
   | none=>none
   | some d=>if v.cs.length=d.sz∧Al g v.p then (if noOwns v.p then some ⟨AL o (.box v.p v.cs [] 0),none⟩ else
     match r with
     | .slot t (.val _ _ _ _ pin) _=>some ⟨AL o (.box v.p v.cs [] pin)++[(t,.gone)],none⟩
     | _=>none) else none
def M0 (place:Nat→Option (Nat × Nat)) (ps:List Pm) (cells:List T):List (Nat × V)→Option (List Pm × List T)
 | []=>some (ps,cells)
 | (i,v)::rest=>match place i with
   | none=>none
   | some (off,size)=>if v.cs.length==size&&v.p.length==size&&Nat.ble (off+size) cells.length
      then M0 place (BH ps off v.p) (Aj cells off v.cs) rest else none
def Lx (E:AX) (g:Nat) (o:Oper) (t:Nat) (parts:List (Nat × Ro)):Option A9 :=
 match E.ty t with
 | some d=>match d.kd with
   | .st fs=>match CI E g (fun i=>(fs[i]?).map (·.2)) parts with
     | none=>none
     | some (vs,us)=>match M0 (fun i=>match fs[i]? with
        | none=>none
        | some (off,ty)=>match E.ty ty with
          | none=>none
          | some d'=>some (off,d'.sz)) d.own d.zero vs with
       | none=>none
       | some (p,cs)=>if BL (us.map (·.1)) then some ⟨AL o (.val true p cs [] 0)++us,none⟩ else none
   | _=>none
 | none=>none
def DI (own:List Pm) (vs:List (Nat × V)):List Pm:=match vs.any (fun x=>pbeqs x.2.p (shares own)) with
 | true=>shares own
 | false=>own
def Cd (E:AX) (g:Nat) (o:Oper) (t len:Nat) (parts:List (Nat × Ro)):Option A9 :=
 match E.ty t with
 | some d=>match d.kd with
   | .slc e=>match E.ty e with
     | none=>none
     | some de=>if Nat.ble (len * de.sz) 65536 then (match CI E g (fun _=>some e) parts with
       | none=>none
       | some (vs,us)=>match LP (DI de.own vs) (fun i=>some (i * de.sz,de.sz)) (reps len de.zero) vs with
         | none=>none
         | some cs=>if BL (us.map (·.1)) then some ⟨AL o (.val false [.sl .own (DI de.own vs)] [.lst len cs] [] 0)++us,none⟩ else none) else none
   | _=>none
 | none=>none
def EB (E:AX) (o:Oper) (t:Nat) (r:Ro):Option A9 :=
 match E.ty t with
 | none=>none
 | some d=>match A1 r with
   | some (k,pl,root)=>match root.root with
     | none=>none
     | some (p,cs,_)=>match atPlace p cs { pl with n:=d.sz,agg:=d.agg } with
       | none=>none
       | some v=>if noOwns v.p then some ⟨AL o (Qz v),none⟩ else some ⟨AL o (.view k { pl with n:=d.sz,agg:=d.agg }),none⟩
   | none=>match r with
     | .slot _ (.val false [.rf .shr el] [.ref cs] _ _) _=>match BO el 0 d.sz with
       | none=>none
       | some p=>match CG cs 0 d.sz with
         | none=>none
         | some c=>some ⟨AL o (.val d.agg p c [] 0),none⟩
     | _=>none
def D2 (E:AX) (g:Nat) (t:Nat) (r x:Ro):Option (A9 × Bool) :=
 match E.ty t with
 | none=>none
 | some d=>match A1 r with
   | none=>none
   | some (k,pl,root)=>match root.root with
     | none=>none
     | some (p,cs,dd)=>match FL E g t x with
       | none=>none
       | some (v,us)=>match rowAt p cs pl.path with
         | none=>none
         | some (el,rcs)=>match BO el pl.c d.sz with
           | none=>none
           | some q=>match CG rcs (ix el.length pl.e pl.c) d.sz with
             | none=>none
             | some _=>if v.cs.length=d.sz ∧ !(us.any fun u=>u.1==k) then (match pl.path with
               | []=>if root.pinned then none else some (⟨us++[(k,root.withRoot (BH p pl.c v.p) (Aj cs pl.c v.cs) (([],pl.c,d.sz)::dd))],none⟩,false)
               | _=>if pbeqs v.p q then some (⟨us++[(k,root.withRoot p (Ah p cs pl.path fun rcs=>Aj rcs (ix el.length pl.e pl.c) v.cs) ((Dx pl.path,pl.c,d.sz)::dd))],none⟩,true) else none) else none
def G4 (o:Oper) (r:Ro):Option A9 :=
 match A1 r with
 | some (k,pl,_)=>some ⟨AL o (.ptr k pl),none⟩
 | none=>match r with
   | .slot _ (.val false [.rf .shr el] [.ref cs] _ _) _=>some ⟨AL o (.val false [.rf .shr el] [.ref cs] [] 0),none⟩
   | _=>none
def A3 (o:Oper) (t:Option T):Option A9 :=
 match t with
 | none=>none
 | some t=>some ⟨AL o (.val false [.leaf] [t] [] 0),none⟩
def F7 (o:Oper) (r:Ro):Option A9 :=
 match r with
 | .part t i (.tup n) c=>if i<n then (match c with
   | .val a p cs _ _=>if noOwns p then some ⟨AL o (.val a p cs [] 0),none⟩ else some ⟨AL o (.val a p cs [] 0)++[(AF t i,.gone)],none⟩
   | .box p cs _ _=>some ⟨AL o (.box p cs [] 0)++[(AF t i,.gone)],none⟩
   | _=>none) else none
 | _=>none
def Bj (E:AX) (o:Oper) (s:Nat) (r:Ro) (f:Nat):Option A9 :=
 match E.ty s with
 | none=>none
 | some d=>match d.kd with
   | .st fs=>match fs[f]? with
     | none=>none
     | some (off,ty)=>match E.ty ty with
       | none=>none
       | some d'=>match A1 r with
         | some (k,pl,root)=>match root.root with
           | none=>none
           | some (p,cs,_)=>match rowAt p cs pl.path with
             | none=>none
             | some (el,_)=>if off+d'.sz≤pl.n∧pl.c+pl.n≤el.length then some ⟨AL o (.ptr k { pl with c:=pl.c+off,n:=d'.sz }),none⟩ else none
         | none=>match r with
           | .slot _ (.val false [.rf .shr el] [.ref cs] _ _) _=>match BO el off d'.sz with
             | none=>none
             | some p=>match CG cs off d'.sz with
               | none=>none
               | some c=>some ⟨AL o (.val false [.rf .shr p] [.ref c] [] 0),none⟩
           | _=>none
   | _=>none
def Ez (E:AX) (o:Oper) (s:Nat) (r:Ro) (f:Nat):Option A9 :=
 match E.ty s with
 | none=>none
 | some d=>match d.kd with
   | .st fs=>match fs[f]? with
     | none=>none
     | some (off,ty)=>match E.ty ty with
       | none=>none
       | some d'=>match AV E s r with
         | none=>none
         | some v=>if !v.agg then none else match BO v.p off d'.sz with
           | none=>none
           | some p=>match CG v.cs off d'.sz with
             | none=>none
             | some c=>if noOwns p then some ⟨AL o (.val d'.agg p c [] 0),none⟩ else
               match r with
               | .slot _ (.view k pl) _=>some ⟨AL o (.view k { pl with c:=pl.c+off,n:=d'.sz,agg:=d'.agg }),none⟩
               | .slot t _ _=>some ⟨AL o (.view t ⟨[],0,off,d'.sz,d'.agg⟩),none⟩
               | _=>none
   | _=>none
def DE (E:AX) (t n:Nat):Bool:=match E.ty t with
 | none=>false
 | some d=>match d.kd with
   | .slc e=>match E.ty e with
     | none=>false
     | some de=>de.sz==n
   | _=>false
def Hj (E:AX) (t:Nat):Bool:=match E.ty t with
 | none=>false
 | some d=>match d.kd with
   | .str=>true
   | _=>false
def C1 (E:AX) (g:Nat) (o:Oper) (t:Nat) (r ri:Ro) (iTy:Nat):Option A9 :=
 match As E iTy ri with
 | some (.int _ i)=>match AV E t r with
   | some ⟨false,[.sl fl el],[.lst n cs]⟩=>if 0≤i∧i<(n:Int)∧DE E t el.length∧fl.live g then (match fl with
     | .own=>match r with
       | .slot _ (.view k pl) _=>some ⟨AL o (.ptr k ⟨pl.path++[(pl.e,pl.c)],i.toNat,0,el.length,false⟩),none⟩
       | .slot t _ _=>some ⟨AL o (.ptr t ⟨[(0,0)],i.toNat,0,el.length,false⟩),none⟩
       | _=>none
     | fl=>match CG cs (ix el.length i.toNat 0) el.length with
       | none=>none
       | some c=>some ⟨AL o (.val false [.rf fl el] [.ref c] [] 0),none⟩) else none
   | _=>none
 | _=>none
def Hp (E:AX) (o:Oper) (t:Nat) (r ri:Ro) (iTy:Nat):Option A9 :=
 match As E iTy ri with
 | some (.int _ i)=>match As E t r with
   | some (.str s)=>if 0≤i∧Hj E t then A3 o (match s[i.toNat]? with
     | none=>none
     | some b=>some (.int .u8 b.toNat)) else none
   | _=>none
 | _=>none
def C9:Operand→Operand→Bool
 | .tmp a,.tmp b=>a==b
 | _,_=>false
def C8 (E:AX) (o:Oper) (t:Nat) (l:Ro) (lTy:Nat):Option A9 :=
 match E.ty t with
 | some d=>match d.kd with
   | .slc e=>match E.ty e with
     | none=>none
     | some de=>match As E lTy l with
       | some (.int .i64 n)=>if 0≤n∧n≤(Q3:Int)∧de.bytes≤1024 then
          some ⟨AL o (.val false [.sl .own de.own] [.lst n.toNat (reps n.toNat de.zero)] [] 0),none⟩ else none
       | _=>none
   | _=>none
 | none=>none
def Fr (E:AX) (ty:Nat) (d:Int):Option Ro→Option Int
 | none=>some d
 | some r=>match As E ty r with
   | some (.int _ n)=>some n
   | _=>none
def Cv (E:AX) (o:Oper) (t:Nat) (r:Ro) (lo hi:Option Ro) (iTy:Nat) (g:Nat):Option A9 :=
 match AV E t r with
 | some ⟨false,[.leaf],[.str s]⟩=>match Fr E iTy 0 lo,Fr E iTy s.length hi with
   | some l,some h=>if 0≤l∧l≤h∧h≤(s.length:Int)∧Hj E t then
      some ⟨AL o (.val false [.leaf] [.str ((s.drop l.toNat).take (h.toNat - l.toNat))] [] 0),none⟩ else none
   | _,_=>none
 | some ⟨false,[.sl fl el],[.lst n cs]⟩=>match Fr E iTy 0 lo,Fr E iTy n hi with
   | some l,some h=>if 0≤l∧l≤h∧h≤(n:Int)∧DE E t el.length∧fl.live g then (
      let c:T:=.lst (h.toNat - l.toNat) ((cs.drop (ix el.length l.toNat 0)).take (ix el.length (h.toNat - l.toNat) 0))
      match fl with
      | .shr=>some ⟨AL o (.val false [.sl .shr el] [c] [] 0),none⟩
      | .lent g'=>some ⟨AL o (.val false [.sl (.lent g') el] [c] [] 0),none⟩
      | .own=>match noOwns el || !Ap el with
        | true=>some ⟨AL o (.val false [.sl (.lent g) (lentifies g el)] [c] [] 0),none⟩
        | false=>none) else none
   | _,_=>none
 | _=>none
def GJ (E:AX) (o:Oper) (t:Nat) (r:Ro) (lo hi:Option Ro) (iTy:Nat) (g:Nat):Option A9 :=
 match AV E t r with
 | some ⟨false,[.sl .own el],[.lst n cs]⟩=>match Fr E iTy 0 lo,Fr E iTy n hi with
   | some l,some h=>if 0≤l∧l≤h∧h≤(n:Int)∧DE E t el.length∧Ap el=true then (match r with
      | .slot _ (.view k pl) root=>match pl.path with
        | []=>match root.root with
          | none=>none
          | some (p,rcs,d)=>some ⟨AL o (.val false [.mv g el] [.lst (h.toNat - l.toNat) ((cs.drop (ix el.length l.toNat 0)).take (ix el.length (h.toNat - l.toNat) 0))] [] 0)++[(k,root.withRoot p (Aj rcs (ix p.length pl.e pl.c) [.lst n (DY el l.toNat (h.toNat - l.toNat) cs)]) (([pl.c],0,el.length)::d))],none⟩
        | _=>none
      | _=>none) else none
   | _,_=>none
 | _=>none
def CB (E:AX) (o:Oper) (t:Nat) (r:Ro) (lo hi:Option Ro) (iTy:Nat) (g:Nat):Option A9:=match Cv E o t r lo hi iTy g with
 | some out=>some out
 | none=>GJ E o t r lo hi iTy g
def Nd (E:AX) (g:Nat) (o:Oper) (t:Nat) (r:Ro):Option A9 :=
 match AV E t r with
 | some ⟨false,[.leaf],[.str s]⟩=>if Hj E t then A3 o (some (.int .i64 s.length)) else none
 | some ⟨false,[.sl fl el],[.lst n _]⟩=>if DE E t el.length∧fl.live g then A3 o (some (.int .i64 n)) else none
 | _=>none
def Di (E:AX) (g t2:Nat) (x:Ro):Option (Nat × List T × List Pm × List (Nat × AA)) :=
 match AV E t2 x with
 | some ⟨false,[.leaf],[.str s]⟩=>if Hj E t2 then some (s.length,s.map (fun b=>T.int .u8 b.toNat),[.leaf],[]) else none
 | some ⟨false,[.sl fl el],[.lst m cs]⟩=>if DE E t2 el.length∧fl.live g then (if noOwns el then some (m,cs,el,[]) else
   match x with
   | .slot t (.val _ _ _ _ 0) _=>some (m,cs,el,[(t,.gone)])
   | .slot t (.view k pl) root=>match FL E g t2 (.slot t (.view k pl) root) with
     | some (_,us)=>some (m,cs,el,us)
     | none=>none
   | _=>none) else none
 | some ⟨false,[.mv g' el],[.lst m cs]⟩=>if DE E t2 el.length∧g'=g then (match x with
   | .slot t (.val _ _ _ _ 0) _=>some (m,cs,el,[(t,.gone)])
   | _=>none) else none
 | _=>none
def Du (E:AX) (t1:Nat) (s:Ro):Option (Nat × List T × List Pm × List (Nat × AA)) :=
 match AV E t1 s with
 | some ⟨false,[.sl .own el],[.lst n cs]⟩=>match s with
   | .con _=>some (n,cs,el,[])
   | .slot t (.val _ _ _ _ 0) _=>some (n,cs,el,[(t,.gone)])
   | .slot _ (.view k pl) root=>if root.pinned then none else match root.root with
     | none=>none
     | some (p,rcs,d)=>match pl.path with
       | []=>some (n,cs,el,[(k,root.withRoot (R9 p pl.c 1) rcs (([],pl.c,1)::d))])
       | path=>match rowAt p rcs path with
         | none=>none
         | some (el2,_)=>some (n,cs,el,[(k,root.withRoot p (Ah p rcs path fun x=>Aj x (ix el2.length pl.e pl.c) [.nil]) ((Dx path,pl.c,1)::d))])
   | _=>none
 | _=>none
def Oc (n:Nat) (el el':List Pm):Bool:=pbeqs el el'||(Nat.beq n 0&&Nat.beq el.length el'.length)
def Eh (E:AX) (g:Nat) (o:Oper) (t1 t2:Nat) (s x:Ro):Option A9 :=
 match E.ty t1 with
 | some d=>match d.kd with
   | .slc e=>match E.ty e with
     | none=>none
     | some de=>match Du E t1 s with
       | none=>none
       | some (n,cs,el,us)=>match Di E g t2 x with
         | none=>none
         | some (m,cs',el',us')=>if Oc n el el'&&Al g el'&&BL ((us++us').map (·.1))&&Nat.ble (n+m) Q3&&Nat.ble de.bytes 1024&&el'.length==de.sz then
            some ⟨AL o (.val false [.sl .own el'] [.lst (n+m) (cs++cs')] [] 0)++(us++us'),none⟩ else none
   | _=>none
 | none=>none
def G7 (isMax:Bool):T→T→Option T
 | .int k x,.int _ y=>if isMax then some (.int k (if y>x then y else x)) else some (.int k (if y<x then y else x))
 | .flt k x,.flt k' y=>if k≠k' then none else match k.format.order x y with
   | none=>some (.flt k (E5 k))
   | some .lt=>some (.flt k (if isMax then y else x))
   | some .gt=>some (.flt k (if isMax then x else y))
   | some .eq=>some (.flt k (if (k.decode x).neg==isMax then y else x))
 | _,_=>none
def EQ:List Ro→Option (List (Nat × AO))
 | []=>some []
 | r::rs=>match A1 r with
   | none=>none
   | some (k,pl,_)=>match EQ rs with
     | none=>none
     | some ks=>some ((k,pl)::ks)
def HB (o:Oper) (fn:Fn) (nfirst:Nat) (rs:List Ro):Option A9 :=
 match fn with
 | .func f=>if nfirst=0 then (match EQ rs with
   | none=>none
   | some ks=>some ⟨AL o (.clo f ks),none⟩) else none
 | _=>none
def Cb:List T→Option (List UInt8)
 | []=>some []
 | .int .u8 n::ts=>match Cb ts with
   | none=>none
   | some bs=>some (UInt8.ofNat n.toNat::bs)
 | _=>none
def Ly (E:AX) (t:Nat):Bool:=match E.ty t with
 | none=>false
 | some d=>match d.kd with
   | .slc _=>false
   | .other=>false
   | _=>true
def I8 (E:AX) (t:Nat):Bool:=match E.ty t with
 | none=>false
 | some d=>match d.kd with
   | .slc e=>match E.ty e with
     | none=>false
     | some de=>match de.kd with
       | .int .u8=>true
       | _=>false
   | _=>false
def Ed (E:AX) (g:Nat) (o:Oper) (src dst:Nat) (r:Ro):Option A9 :=
 match E.ty dst with
 | none=>none
 | some d=>match AV E src r with
   | some ⟨false,[.leaf],[u]⟩=>if Ly E src then A3 o (Ib d.kd u) else none
   | some ⟨false,[.sl fl [.leaf]],[.lst _ cs]⟩=>if I8 E src&&fl.live g then (match d.kd with
     | .str=>match Cb cs with
       | none=>none
       | some bs=>A3 o (some (.str bs))
     | _=>none) else none
   | _=>none
def leaves (E:AX):List Nat→List Ro→Option (List T)
 | [],[]=>some []
 | ty::tys,r::rs=>match As E ty r with
   | none=>none
   | some t=>match leaves E tys rs with
     | none=>none
     | some ts=>some (t::ts)
 | _,_=>none
def Ct (isMax:Bool) (t:T):List T→Option T
 | []=>some t
 | u::us=>match G7 isMax t u with
   | none=>none
   | some r=>Ct isMax r us
def shareBy (gm:Option Nat) (ps:List Pm):List Pm:=match gm with
 | none=>shares ps
 | some g=>sharesG g ps
def NA (gm:Option Nat):List (Nat × AO × AA)→Option (List Pm × List T)
 | []=>some ([],[])
 | (_,pl,root)::r=>match root.root with
   | none=>none
   | some (p,cs,d)=>if BF d pl then none else match atPlace p cs pl with
     | none=>none
     | some v=>if Nat.ble pl.n 0 then none else match NA gm r with
       | none=>none
       | some (ps,ts)=>some (.rf .shr (shareBy gm v.p)::ps,.ref v.cs::ts)
def Da:Ro→Option (Nat × AO × AA)
 | .slot _ (.view k pl) root=>some (k,pl,root)
 | .slot t (.val a p cs d pin) _=>some (t,ES p a,.val a p cs d pin)
 | _=>none
def CL (E:AX) (gm:Option Nat) (m:BX) (ty:Nat) (r:Ro):Option (Am × List (Nat × AO)) :=
 match m with
 | .val=>match AV E ty r with
   | some v=>some (⟨.val,⟨v.agg,shareBy gm v.p,v.cs⟩⟩,[])
   | none=>match r with
     | .clo _ f caps=>match NA gm caps with
       | none=>none
       | some (ps,ts)=>some (⟨.val,⟨false,[.fn ps],[.fn f ts]⟩⟩,[])
     | r=>match A1 r with
       | none=>none
       | some (_,pl,root)=>match root.root with
         | none=>none
         | some (p,cs,_)=>match atPlace p cs pl with
           | none=>none
           | some v=>if Nat.ble pl.n 0 then none else some (⟨.val,⟨false,[.rf .shr (shareBy gm v.p)],[.ref v.cs]⟩⟩,[])
 | .io=>match Da r with
   | none=>none
   | some (k,pl,root)=>match root.root with
     | none=>none
     | some (p,cs,d)=>if CY d pl||(pl.path.isEmpty&&pl.e != 0)||Nat.ble pl.n 0 then none else match atPlace p cs pl with
       | none=>none
       | some v=>if noLents v.p then some (⟨.io,v⟩,[(k,pl)]) else none
 | .iop=>match A1 r with
   | none=>none
   | some (k,pl,root)=>if root.pinned || !pl.path.isEmpty||pl.e != 0||Nat.ble pl.n 0 then none else match root.root with
     | none=>none
     | some (p,cs,_)=>match atPlace p cs pl with
       | none=>none
       | some v=>if noLents v.p then some (⟨.iop,⟨false,[.rf .own v.p],[.ref v.cs]⟩⟩,[(k,pl)]) else none
def BG (E:AX) (gm:Option Nat):List BX→List Nat→List Ro→Option (List Am × List (Nat × AO))
 | [],[],[]=>some ([],[])
 | m::ms,ty::tys,r::rs=>match CL E gm m ty r with
   | none=>none
   | some (a,ks)=>match BG E gm ms tys rs with
     | none=>none
     | some (az,ks')=>some (a::az,ks++ks')
 | _,_,_=>none
def Gf:BX→Bool
 | .val=>true
 | _=>false
def EP (a:Am):Bool:=match a with
 | ⟨.val,⟨false,[.leaf],[_]⟩⟩=>true
 | _=>false
def Ro.rootNo:Ro→List Nat
 | .slot _ (.view k _) _=>[k]
 | .slot _ (.ptr k _) _=>[k]
 | .slot t _ _=>[t]
 | .clo _ _ caps=>caps.map (·.1)
 | _=>[]
def CA:List BX→List Ro→List Nat
 | .val::ms,r::rs=>r.rootNo++CA ms rs
 | _::ms,_::rs=>CA ms rs
 | _,_=>[]
def Pm.isDead:Pm→Bool
 | .dead=>true
 | _=>false
def J9 (ps:List Pm):Bool:=ps.all Pm.isDead
def CC (a:Am) (pl:AO) (root:AA) (v:V):Option AA :=
 match root.root with
 | none=>none
 | some (p,cs,d)=>match a.m with
    | .iop=>match v.p,v.cs,a.v.p with
      | [.rf .own q],[.ref c],[.rf .own q']=>if pbeqs q q'&&c.length==pl.n then
          some (root.withRoot p (Aj cs pl.c c) (([],pl.c,pl.n)::d)) else none
      | _,_,_=>none
    | _=>if pbeqs v.p a.v.p&&v.cs.length==pl.n then (match pl.path with
      | []=>some (root.withRoot p (Aj cs pl.c v.cs) (([],pl.c,pl.n)::d))
      | path=>match rowAt p cs path with
        | none=>none
        | some (el,_)=>some (root.withRoot p (Ah p cs path fun rcs=>Aj rcs (ix el.length pl.e pl.c) v.cs) ((Dx path,pl.c,pl.n)::d)))
      else if J9 v.p&&v.p.length==pl.n&&v.cs.length==pl.n then (match pl.path with
       | []=>some (root.withRoot (BH p pl.c v.p) (Aj cs pl.c v.cs) (([],pl.c,pl.n)::d))
       | path=>match rowAt p cs path with
         | none=>none
         | some (el,_)=>match Bn a.v.p a.v.cs with
           | none=>none
           | some hs=>some (root.withRoot p (Ah p cs path fun rcs=>Aj rcs (ix el.length pl.e pl.c) hs) ((Dx path,pl.c,pl.n)::d))) else none
def B6 (roots:Nat→AA):List Am→List (Nat × AO)→List V→Option (List (Nat × AA))
 | [],[],[]=>some []
 | a::az,ks,vs=>match a.m with
   | .val=>B6 roots az ks vs
   | _=>match ks,vs with
     | (k,pl)::ks,v::vs=>match CC a pl (roots k) v with
       | none=>none
       | some s=>match B6 roots az ks vs with
         | none=>none
         | some us=>some ((k,s)::us)
     | _,_=>none
 | _,_,_=>none
def Js:V→Option (List Pm × List T)
 | ⟨false,[.rf .own p],[.ref cs]⟩=>some (p,cs)
 | _=>none
mutual
def Pm.clean2:Pm→Bool
 | .leaf=>true
 | .dead=>true
 | .sl .own el=>clean2s el
 | .rf .own el=>clean2s el
 | _=>false
def clean2s:List Pm→Bool
 | []=>true
 | p::ps=>p.clean2&&clean2s ps
end
def B4 (v:V):AA:=match Js v with
 | some (p,cs) => .box p cs [] 0
 | none => .val v.agg v.p v.cs [] 0
def AW (o:Oper) (rs:List V):List (Nat × AA) :=
 match o.dst with
 | none=>[]
 | some d=>match rs with
   | [v]=>[(d,B4 v)]
   | rs=>if Nat.ble 16 rs.length then [(d,.gone)] else (d,.tup rs.length)::CH d 0 (rs.map B4)
mutual
def Pm.clean3:Pm→Bool
 | .leaf=>true
 | .dead=>true
 | .sl .own el=>clean3s el
 | .sl .shr el=>clean3s el
 | .rf .own el=>clean3s el
 | .rf .shr el=>clean3s el
 | _=>false
def clean3s:List Pm→Bool
 | []=>true
 | p::ps=>p.clean3&&clean3s ps
end
def BB (E:AX):List BX→List Nat→List Ro→Bool
 | .val::ms,ty::tys,r::rs=>(match AV E ty r with
   | some v=>noOwns v.p&&noLents v.p
   | none=>false)&&BB E ms tys rs
 | _::ms,_::tys,_::rs=>BB E ms tys rs
 | _,_,_=>true
def FI (shr:Bool) (rs:List V):Bool:=rs.all fun v=>clean2s v.p||shr&&clean3s v.p
def E3 (E:AX):List Nat→List Ro→Bool
 | ty::tys,r::rs=>(match AV E ty r with
   | some v=>noLents v.p
   | none=>true)&&E3 E tys rs
 | _,_=>true
def FD.keep:FD→List (Nat × List Nat)
 | .code _ _ _ _ k=>k
 | _=>[]
def FD.ms:FD→List BX
 | .code _ m _ _ _=>m
 | _=>[]
def FD.os:FD→List Nat
 | .code _ _ o _ _=>o
 | _=>[]
def FD.rs:FD→List (Nat × Option (Bool × Nat))
 | .code _ _ _ r _=>r
 | _=>[]
def FD.modes (n:Nat):FD→List BX
 | .code _ ms _ _ _=>ms
 | .ext _=>List.replicate n .val
 | .sem ms _=>ms
def BV:List Ro→Nat→AA
 | [],_ => .dead
 | .slot _ (.view k _) root::rs,j=>if j=k then root else BV rs j
 | .slot _ (.ptr k _) root::rs,j=>if j=k then root else BV rs j
 | .slot t s _::rs,j=>if j=t then s else BV rs j
 | _::rs,j=>BV rs j
def Co (E:AX) (callF:Nat→List Am→Option By) (o:Oper) (f:Nat) (tys:List Nat) (rs:List Ro) (g:Nat):Option (A9 × Bool) :=
 match E.fn f with
 | none=>none
 | some fd =>
   if (fd.modes rs.length).all Gf then
    (if E3 E tys rs then
      (match BG E none (fd.modes rs.length) tys rs with
      | none=>none
      | some (az,_)=>match callF f az with
        | none=>none
        | some r=>if FI (BB E (fd.modes rs.length) tys rs) r.rs then some (⟨AW o r.rs,none⟩,false) else none)
    else match BG E (some g) (fd.modes rs.length) tys rs with
     | none=>none
     | some (az,_)=>match callF f az with
       | none=>none
       | some r=>if FI false r.rs then some (⟨AW o r.rs,none⟩,true) else none)
   else match BG E none (fd.modes rs.length) tys rs with
    | none=>none
    | some (az,ks) =>
      if BL (ks.map (·.1)) && !((CA (fd.modes rs.length) rs).any fun k=>(ks.map (·.1)).any fun k'=>k==k') then
       (match callF f az with
       | none=>none
       | some r=>if FI (BB E (fd.modes rs.length) tys rs) r.rs&&FI (BB E (fd.modes rs.length) tys rs) (r.outs.filterMap id) then (match B6 (BV rs) az ks (r.outs.filterMap id) with
         | none=>none
         | some us=>if BL ((AW o r.rs++us).map (·.1)) then some (⟨AW o r.rs++us,some (g+1)⟩,true) else none) else none)
      else none
def NP (E:AX) (xt:Nat):T→Bool
 | .bool _=>match E.ty xt with
   | some d=>match d.kd with
     | .bool=>true
     | _=>false
   | none=>false
 | _=>true
def Ao (E:AX) (callF:Nat→List Am→Option By) (o:Oper) (rs:List Ro) (old:AA) (g:Nat):Option (A9 × Bool) :=
 let a (x:Option A9):Option (A9 × Bool):=match x with
  | none=>none
  | some x=>some (x,false)
 let ag (x:Option A9):Option (A9 × Bool):=match x with
  | none=>none
  | some x=>some (x,true)
 match o.op,rs with
 | .move _,[r]=>a (BW E o r)
 | .assign _,[r]=>a (C4 E o r old)
 | .pick _ _ _,[c,x,y]=>match As E 0 c with
   | some (.bool b)=>a (match b with
     | true=>BW E o x
     | false=>BW E o y)
   | _=>none
 | .alloc elem,[]=>match E.ty elem with
   | none=>none
   | some d=>some (⟨AL o (.box d.own d.zero [] 0),none⟩,false)
 | .box elem _,[r]=>ag (Qg E g o elem r)
 | .build t parts,rs=>ag (Lx E g o t ((parts.toList.map (·.1)).zip rs))
 | .buildSlice t len parts,rs=>ag (Cd E g o t len ((parts.toList.map (·.1)).zip rs))
 | .load t _,[r]=>a (EB E o t r)
 | .store t _ _,[r,x]=>if o.dst.isSome then none else match D2 E g t r x with
   | none=>none
   | some (out,row)=>if row then some (⟨out.ups,some (g+1)⟩,true) else some (out,true)
 | .nilCheck _,[r]=>a (G4 o r)
 | .binOp op xt _ _ yt,[x,y]=>match As E xt x with
   | none=>none
   | some u=>match As E yt y with
     | none=>none
     | some v=>if NP E xt u then a (A3 o (BK op u v)) else none
 | .unOp op xt _,[x]=>match As E xt x with
   | none=>none
   | some u=>a (A3 o (Q5 op u))
 | .convert src dst _,[x]=>ag (Ed E g o src dst x)
 | .makeFunc fn first _,rs=>a (HB o fn first.size rs)
 | .makeSlice t l c,[x,_]=>if C9 l c then a (C8 E o t x 0) else none
 | .slice t _ lo hi none,r::rs=>match lo,hi,rs with
   | none,none,[]=>ag (CB E o t r none none 0 g)
   | some _,none,[x]=>ag (CB E o t r (some x) none 0 g)
   | none,some _,[y]=>ag (CB E o t r none (some y) 0 g)
   | some _,some _,[x,y]=>ag (CB E o t r (some x) (some y) 0 g)
   | _,_,_=>none
 | .fieldAddr s _ f,[r]=>a (Bj E o s r f)
 | .field s _ f,[r]=>a (Ez E o s r f)
 | .indexAddr t _ _,[r,i]=>ag (C1 E g o t r i 0)
 | .index t _ _,[r,i]=>a (Hp E o t r i 0)
 | .extract _ _,[r]=>a (F7 o r)
 | .call c,rs=>match c.callee with
   | .builtin b=>match b,c.argTypes.toList,rs with
     | .len,[t],[r]=>ag (Nd E g o t r)
     | .append,[t1,t2],[s,x]=>ag (Eh E g o t1 t2 s x)
     | .max,tys,rs=>match leaves E tys rs with
       | some (t::ts)=>a (A3 o (Ct true t ts))
       | _=>none
     | .min,tys,rs=>match leaves E tys rs with
       | some (t::ts)=>a (A3 o (Ct false t ts))
       | _=>none
     | _,_,_=>none
   | .value (.func f)=>Co E callF o f c.argTypes.toList (rs.drop 1) g
   | .value _=>match rs with
     | .clo _ f caps::rs=>Co E callF o f (c.argTypes.toList++caps.map fun _=>0) (rs++caps.map fun x => .slot x.1 (.ptr x.1 x.2.1) x.2.2) g
     | .slot _ (.val false [.fn ps] [.fn f ts] _ _) _::rs=>Co E callF o f (c.argTypes.toList++ps.map fun _=>0) (rs++(ps.zip ts).map fun x => .v ⟨false,[x.1],[x.2]⟩) g
     | _=>none
   | _=>none
 | _,_=>none
def G:Nat:=4294967295
structure C6 where
 ups:List (Nat × AA)
 g:Option Nat
 foot:List Nat
 writes:List Nat
def D3 (ops:Array Oper) (env:List (Nat × AA)) (o:Oper):Option (Bool × List Nat) :=
 match o.guard with
 | none=>some (true,[])
 | some (j,want)=>match (ops[j]?).bind (·.dst) with
   | none=>none
   | some d=>match AE env d with
     | .val false [.leaf] [.bool b] _ _=>some (b==want,[d])
     | .und=>some (false,[d])
     | _=>none
def KW:List Ro→List Nat
 | []=>[]
 | r::rs=>r.foot++KW rs
def DL (o:Oper):List Nat:=match o.dst with
 | none=>[]
 | some d=>[d]
def AH:Op→Bool
 | .assign _=>true
 | _=>false
def A0:AA→Bool
 | .dead=>true
 | .val _ p _ [] _=>noOwns p
 | _=>false
def C0 (o:Oper) (old:AA) (ups:List (Nat × AA)):Bool :=
 match o.dst with
 | none=>true
 | some d => !((AE ups d).looks.any fun k=>k==d)&&(AH o.op||A0 old||(match (AE ups d).root with
   | none=>true
   | some _=>false))
def GS (env:List (Nat × AA)) (o:Oper):AA:=match o.dst with
 | none => .dead
 | some d=>AE env d
def CD (k:Nat):Nat:=5000000000+k
def At:CE→List (Nat × Nat)
 | []=>[]
 | ([],c,n)::d=>(c,n)::At d
 | _::d=>At d
def AA.skel:AA→AA
 | .val a p cs d pin => .val a p (List.replicate cs.length .nil) ((At d).map fun x=>([],x.1,x.2)) pin
 | .box p cs d pin => .box p (List.replicate cs.length .nil) ((At d).map fun x=>([],x.1,x.2)) pin
 | s=>s
def FH:List (Nat × Nat)→List (Nat × Nat)→Bool
 | [],[]=>true
 | (a,b)::xs,(c,d)::ys=>Nat.beq a c&&Nat.beq b d&&FH xs ys
 | _,_=>false
def HH:AA→AA→Bool
 | .val a p cs d pin,.val a' p' cs' d' pin'=>(a==a')&&pbeqs p p'&&Nat.beq cs.length cs'.length&&FH (At d) (At d')&&Nat.beq pin pin'
 | .box p cs d pin,.box p' cs' d' pin'=>pbeqs p p'&&Nat.beq cs.length cs'.length&&FH (At d) (At d')&&Nat.beq pin pin'
 | _,_=>false
def JC (env:List (Nat × AA)):List (Nat × AA)→List Nat
 | []=>[]
 | (k,s)::us=>match HH (AE env k) s with
   | true=>JC env us
   | false=>CD k::JC env us
def EG:Ro→List Nat
 | .slot t (.ptr k pl) _=>match pl.path with
   | []=>[t,CD k]
   | _=>[t,k]
 | .slot t (.box _ _ _ _) _=>[CD t]
 | r=>r.foot
def Jh (op:Op) (rs:List Ro) (ups:List (Nat × AA)):List Nat:=match op with
 | .fieldAddr .. =>(match rs with
   | [r]=>EG r
   | rs=>KW rs)
 | .load .. =>(match rs,ups with
   | [r],[(_,.view _ _)]=>EG r
   | rs,_=>KW rs)
 | _=>KW rs
def Bk (E:AX) (callF:Nat→List Am→Option By) (ops:Array Oper) (o:Oper) (σ:AS):Option C6 :=
 match D3 ops σ.env o with
 | none=>none
 | some (false,f)=>some ⟨AL o .und,none,f,DL o++(DL o).map CD⟩
 | some (true,f) =>
   match Ao E callF o (AQ σ.env o.op) (GS σ.env o) σ.g with
   | none=>none
   | some (out,usesG)=>if C0 o (GS σ.env o) out.ups then some ⟨out.ups,out.g,
      f++Jh o.op (AQ σ.env o.op) out.ups++DL o++(if usesG then [G] else []),
      out.ups.map (·.1)++JC σ.env out.ups++(match out.g with
       | none=>[]
       | some _=>[G])⟩ else none
def Ae:List (Nat × AA)→List (Nat × AA)→List (Nat × AA)
 | [],env=>env
 | u::us,env=>Ae us (u::env)
def Fg (E:AX) (callF:Nat→List Am→Option By) (ops:Array Oper):List Oper→AS→Option (AS × List (List Nat × List Nat))
 | [],σ=>some (σ,[])
 | o::os,σ=>match Bk E callF ops o σ with
   | none=>none
   | some st=>match Fg E callF ops os ⟨Ae st.ups σ.env,st.g.getD σ.g⟩ with
     | none=>none
     | some (σ',fs)=>some (σ',(st.foot,st.writes)::fs)
def meets (xs ys:List Nat):Bool:=xs.any fun x=>ys.any fun y=>x==y
def Cf (before:Array Nat):Nat→List (List Nat × List Nat)→List (List Nat × List Nat)→Bool
 | _,_,[]=>true
 | j,done,(f,w)::rest =>
   (go j 0 done f w)&&Cf before (j+1) (done++[(f,w)]) rest
where
 go (j:Nat):Nat→List (List Nat × List Nat)→List Nat→List Nat→Bool
  | _,[],_,_=>true
  | i,(f',w')::r,f,w=>(!(meets w' f||meets w' w||meets f' w)||(before.getD j 0).testBit i)&&go j (i+1) r f w
def AA.settle (env:List (Nat × AA)) (keep:List Nat):AA→AA
 | .view k pl=>if keep.any (fun j=>j==k) then (match (AE env k).root with
   | none => .dead
   | some (p,_,d)=>if CY d pl||noOwns p then .dead else .view k pl) else .dead
 | .ptr k pl=>if keep.any (fun j=>j==k) then (match (AE env k).root with
   | none => .dead
   | some (_,_,d)=>if BF d pl then .dead else .ptr k pl) else .dead
 | .val a p cs _ pin => .val a p cs [] pin
 | .tup _ => .dead
 | .box p cs _ pin => .box p cs [] pin
 | .clo f caps=>if caps.all fun c=>keep.any (fun j=>j==c.1)&&(match (AE env c.1).root with
   | none=>false
   | some (_,_,d) => !BF d c.2) then .clo f caps else .dead
 | .dead => .dead
 | .und => .dead
 | .gone => .dead
def AA.lentFree:AA→Bool
 | .val _ p _ _ _=>noLents p
 | .box p _ _ _=>noLents p
 | _=>true
def settle0 (keep:List Nat) (σ:AS):AS :=
 let env:=(keep.filter fun k=>Nat.blt k 1000000).map fun k=>(k,(AE σ.env k).settle σ.env keep)
 ⟨env,if env.all (fun x=>x.2.lentFree) then 0 else σ.g⟩
def Pm.shareIn:Pm→Pm
 | .sl .own el => .sl .own (shares el)
 | p=>p
def Ei (ps:List Pm):List Pm:=ps.map Pm.shareIn
def AA.froze (m:Bool):AA→AA
 | .val a p cs d 0 => .val a (match m with | true=>Ei p | false=>shares p) cs d 0
 | .box p cs d 0 => .box (match m with | true=>Ei p | false=>shares p) cs d 0
 | s=>s
def Je (env:List (Nat × AA)) (k:Nat):Bool:=env.any fun y=>y.2.looks.any fun j=>j==k
def DW (keep:List Nat) (env:List (Nat × AA)) (k:Nat) (s:AA):AA :=
 if keep.any (fun j=>Nat.beq j (1000000000+k)) && !Je env k then s.froze false
 else if keep.any (fun j=>Nat.beq j (2000000000+k)) && !Je env k then s.froze true
 else s
def C7 (keep:List Nat) (τ:AS):AS:=⟨τ.env.map fun x=>(x.1,DW keep τ.env x.1 x.2),τ.g⟩
def JW (keep:List Nat):Bool:=keep.any fun k=>Nat.ble 1000000000 k
def settle (keep:List Nat) (σ:AS):AS:=match JW keep with
 | true=>C7 keep (settle0 keep σ)
 | false=>settle0 keep σ
def EY (keep:List (Nat × List Nat)):Bool:=keep.all fun x => !JW x.2
inductive Ex where
 | normal
 | exit (id:Nat)
 | ret
def A4:List (Nat × List Nat)→Nat→List Nat
 | [],_=>[]
 | (i,k)::r,j=>if i=j then k else A4 r j
def BC:Code→Nat
 | .region id _ _=>id
 | .seq a _=>BC a
 | .cond _ x _=>BC x
 | .block _ x=>BC x
 | .loop x=>BC x
 | _=>0
def Hh:Nat→(AS→AS)→(AS→Option (Ex × AS))→AS→Option (Ex × AS)
 | 0,_,_,_=>none
 | n+1,st,f,σ=>match f σ with
   | some (.normal,σ')=>Hh n st f (st σ')
   | r=>r
def IN (E:AX) (callF:Nat→List Am→Option By) (keep:List Nat) (ops:Array Oper) (draw:Bool) (σ:AS):Option (Ex × AS) :=
 match Fg E callF ops ops.toList (settle keep σ) with
 | none=>none
 | some (σ',fs)=>if !draw||Cf (Region.before ops) 0 [] fs then some (.normal,σ') else none
def Hw (body:Code):Nat:=1000000+BC body
def F1 (keep:List Nat):Option (Ex × AS)→Option (Ex × AS)
 | none=>none
 | some (ex,σ)=>some (ex,settle keep σ)
def AU (E:AX) (callF:Nat→List Am→Option By) (n:Nat) (keep:List (Nat × List Nat)):Code→AS→Option (Ex × AS)
 | .skip,σ=>some (.normal,σ)
 | .region id ops draw,σ=>IN E callF (A4 keep id) ops draw σ
 | .seq a b,σ=>match AU E callF n keep a σ with
   | some (.normal,σ')=>AU E callF n keep b σ'
   | r=>r
 | .cond c x y,σ=>match As E 0 (AB σ.env c) with
   | some (.bool b)=>match b with
     | true=>AU E callF n keep x σ
     | false=>AU E callF n keep y σ
   | _=>none
 | .block id body,σ=>match AU E callF n keep body σ with
   | some (.exit id',σ')=>if id'=id then some (.normal,σ') else some (.exit id',σ')
   | r=>r
 | .loop body,σ=>F1 (A4 keep (Hw body)) (Hh n (settle (A4 keep (BC body))) (AU E callF n keep body) (settle (A4 keep (BC body)) σ))
 | .exit id,σ=>some (.exit id,σ)
 | .ret,σ=>some (.ret,σ)
 | _,_=>none
def Hq (i:Nat):Am→AA
 | ⟨.val,v⟩ => .val v.agg v.p v.cs [] 0
 | ⟨.io,v⟩ => .val v.agg v.p v.cs [] (i+1)
 | ⟨.iop,v⟩=>match Js v with
   | some (p,cs) => .box p cs [] 0
   | none => .dead
def Ft:Nat→List Am→List (Nat × AA)
 | _,[]=>[]
 | i,a::az=>(i,Hq i a)::Ft (i+1) az
def SA (env:List (Nat × AA)) (t:Nat) (cell:Option (Bool × Nat)):Option V :=
 match cell,AE env t with
 | none,.val a p cs _ 0=>some ⟨a,p,cs⟩
 | none,.box p cs _ 0=>some ⟨false,[.rf .own p],[.ref cs]⟩
 | some (a,n),.box p cs _ 0=>if p.length==n then some ⟨a,p,cs⟩ else none
 | _,_=>none
def K8 (env:List (Nat × AA)):List (Nat × Option (Bool × Nat))→Option (List V)
 | []=>some []
 | (t,c)::ts=>match SA env t c with
   | none=>none
   | some v=>match K8 env ts with
     | none=>none
     | some vs=>some (v::vs)
def SP (env:List (Nat × AA)) (i:Nat) (m:BX) (t:Nat):Option V :=
 match m,AE env t with
 | .io,.val a p cs _ pin=>if pin=i+1 then some ⟨a,p,cs⟩ else none
 | .io,.box p cs _ pin=>if pin=i+1 then some ⟨true,p,cs⟩ else none
 | .iop,.box p cs _ 0=>if t=i then some ⟨false,[.rf .own p],[.ref cs]⟩ else none
 | _,_=>none
def Gc (env:List (Nat × AA)):Nat→List BX→List Nat→Option (List (Option V))
 | _,[],_=>some []
 | i,.val::ms,ts=>match Gc env (i+1) ms ts with
   | none=>none
   | some vs=>some (none::vs)
 | i,m::ms,t::ts=>match SP env i m t with
   | none=>none
   | some v=>match Gc env (i+1) ms ts with
     | none=>none
     | some vs=>some (some v::vs)
 | _,_::_,[]=>none
def IE (os:List (Option V)):Bool:=os.all fun o=>match o with
 | some v=>clean2s v.p
 | none=>true
def MZ (modes:List BX) (outs:List Nat) (results:List (Nat × Option (Bool × Nat))) (keep:List (Nat × List Nat)):Option (Ex × AS)→Option By
 | some (.exit _,_)=>none
 | none=>none
 | some (_,σ)=>match K8 σ.env results with
   | none=>none
   | some rs=>match Gc σ.env 0 modes outs with
     | none=>none
     | some os=>if BL (results.map (·.1)++outs)&&(EY keep||(rs.all fun v=>clean2s v.p)&&IE os) then some ⟨rs,os⟩ else none
def BX.beq:BX→BX→Bool
 | .val,.val=>true
 | .io,.io=>true
 | .iop,.iop=>true
 | _,_=>false
def CO:List BX→List Am→Bool
 | [],[]=>true
 | m::ms,a::az=>m.beq a.m&&CO ms az
 | _,_=>false
def AM (E:AX):Nat→Nat→List Am→Option By
 | 0,_,_=>none
 | n+1,f,args=>match E.fn f with
   | none=>none
   | some (.ext h)=>if args.all EP then (match h (args.flatMap fun a=>a.v.cs) with
     | none=>none
     | some rs=>some ⟨rs.map fun x=>⟨x.1,x.2.1,x.2.2⟩,args.map fun _=>none⟩) else none
   | some (.sem _ h)=>h args
   | some (.code c modes outs results keep)=>if CO modes args then MZ modes outs results keep (AU E (AM E n) n keep c ⟨Ft 0 args,0⟩) else none
section
variable {w:World} {Fz Fz':Nat→Prop} {Lt Lt':Nat→Nat→Prop} {g g':Nat}
theorem EK (a b:List Pm):noOwns (a++b)=(noOwns a&&noOwns b):=by
 induction a with
 | nil=>simp[noOwns]
 | cons p ps ih=>simp[noOwns,ih,Bool.and_assoc]
theorem JG (a b:List Pm):noLents (a++b)=(noLents a&&noLents b):=by
 induction a with
 | nil=>simp[noLents]
 | cons p ps ih=>simp[noLents,ih,Bool.and_assoc]
theorem GT (a b:List Pm):shares (a++b)=shares a++shares b:=by
 induction a with
 | nil=>simp[shares]
 | cons p ps ih=>simp[shares,ih]
theorem Jz (a b:List Pm):sharesG g (a++b)=sharesG g a++sharesG g b:=by
 induction a with
 | nil=>simp[sharesG]
 | cons p ps ih=>simp[sharesG,ih]
theorem IL (a b:List Pm):lentifies g (a++b)=lentifies g a++lentifies g b:=by
 induction a with
 | nil=>simp[lentifies]
 | cons p ps ih=>simp[lentifies,ih]
theorem AK (a:List Pm):(shares a).length=a.length:=by
 induction a with
 | nil=>simp[shares]
 | cons p ps ih=>simp[shares,ih]
theorem AP (a:List Pm):(sharesG g a).length=a.length:=by
 induction a with
 | nil=>simp[sharesG]
 | cons p ps ih=>simp[sharesG,ih]
theorem Ad (a:List Pm):(lentifies g a).length=a.length:=by
 induction a with
 | nil=>simp[lentifies]
 | cons p ps ih=>simp[lentifies,ih]
theorem Ba (n:Nat) (el:List Pm):rep (n+1) el=el++rep n el:=by simp[rep,replicate_succ]
theorem BI (el:List Pm):rep 1 el=el:=by simp[rep]
theorem A6 (n:Nat) (el:List Pm):(rep n el).length=n * el.length:=by simp[rep]
theorem Eu (n m:Nat) (el:List Pm):rep (n+m) el=rep n el++rep m el:=by
 simp only[rep,← List.flatten_append,List.replicate_append_replicate]
theorem E7 (n:Nat) (el:List Pm):shares (rep n el)=rep n (shares el):=by
 induction n with
 | zero=>simp[rep,shares]
 | succ n ih=>simp[Ba,GT,ih]
theorem Ff (n:Nat) (el:List Pm):sharesG g (rep n el)=rep n (sharesG g el):=by
 induction n with
 | zero=>simp[rep,sharesG]
 | succ n ih=>simp[Ba,Jz,ih]
theorem GX (n:Nat) (el:List Pm):lentifies g (rep n el)=rep n (lentifies g el):=by
 induction n with
 | zero=>simp[rep,lentifies]
 | succ n ih=>simp[Ba,IL,ih]
theorem Nm {n:Nat} {el:List Pm} (h:noOwns el=true):noOwns (rep n el)=true:=by
 induction n with
 | zero=>simp[rep,noOwns]
 | succ n ih=>simp[Ba,EK,ih,h]
theorem Il {n:Nat} {el:List Pm} (h:noLents el=true):noLents (rep n el)=true:=by
 induction n with
 | zero=>simp[rep,noLents]
 | succ n ih=>simp[Ba,JG,ih,h]
theorem R.noOwn {ps ts vs fp} (h:R w Fz Lt g ps ts vs fp) (hn:noOwns ps=true):fp=[]:=by
 induction h with
 | nil=>rfl
 | slO=>simp[noOwns,Pm.noOwn] at hn
 | rfO=>simp[noOwns,Pm.noOwn] at hn
 | leaf _ _ ih=>simp[noOwns] at hn;exact ih hn.2
 | dead _ ih=>simp[noOwns] at hn;exact ih hn.2
 | slE _ _ ih=>simp[noOwns] at hn;exact ih hn.2
 | slS _ _ _ _ _ _ _ _ _ ih=>simp[noOwns] at hn;exact ih hn.2
 | slL _ _ _ _ _ _ _ _ _ ih=>simp[noOwns] at hn;exact ih hn.2
 | slX _ _ ih=>simp[noOwns] at hn;exact ih hn.2
 | slH _ ih=>simp only[noOwns,zB] at hn;exact ih hn.2
 | rfS _ _ _ _ _ _ _ _ ih=>simp[noOwns] at hn;exact ih hn.2
 | rfL _ _ _ _ _ _ _ _ ih=>simp[noOwns] at hn;exact ih hn.2
 | rfX _ _ ih=>simp[noOwns] at hn;exact ih hn.2
 | fnv _ _ _ ih=>simp[noOwns] at hn;exact ih hn.2
 | mvE=>simp[noOwns,Pm.noOwn] at hn
 | mvX=>simp[noOwns,Pm.noOwn] at hn
 | mvO=>simp[noOwns,Pm.noOwn] at hn
 | bldN=>simp[noOwns,Pm.noOwn] at hn
 | bldO=>simp[noOwns,Pm.noOwn] at hn
theorem R.share {ps ts vs fp} (h:R w Fz Lt g ps ts vs fp) (hF:∀ b,Fz b→Fz' b) (hp:∀ f∈fp,Fz' f.b) :
  R w Fz' Lt' g' (shares ps) ts vs []:=by
 induction h with
 | nil=>exact .nil
 | leaf h _ ih=>exact .leaf h (ih hp)
 | dead _ ih=>exact .dead (ih hp)
 | @slE fl el a cap ps ts vs fp h _ ih =>
   cases fl with
   | lent g''=>exact .dead (ih hp)
   | own=>exact .slE (by simp) (ih hp)
   | shr=>exact .slE (by simp) (ih hp)
 | @slS b off n cap row e fr el cs vs' ps ts vs fp h0 hb hz hn hs hr hi _ ih1 ih2 =>
   exact .slS (vs' :=vs') (by rw[AK];exact h0) hb (hF _ hz) hn (by rw[AK];exact hs) (by rw[AK];exact hr) (by rw[← E7];exact ih1 (by simp)) (ih2 hp)
 | slL _ _ _ _ _ _ _ _ _ ih=>exact .dead (ih hp)
 | slX _ _ ih=>exact .dead (ih hp)
 | @slH fl el a n cap ps ts vs fp _ ih =>
   cases fl with
   | lent=>exact .dead (ih hp)
   | _=>exact .slH (ih hp)
 | @slO b off n cap row e fr el cs vs' ps ts vs fp₁ fp₂ h0 hb hz hl hn hs hr hf hi _ ih1 ih2 =>
   refine .slS (vs' :=vs') (by rw[AK];exact h0) hb (hp _ (mem_cons_self ..)) hn (by rw[AK];exact hs) ?_ (by rw[← E7];exact ih1 fun f hf=>hp f (by simp[hf])) (ih2 fun f hf=>hp f (by simp[hf]))
   rw[AK]
   exact Nat.le_trans (Nat.add_le_add_left (Nat.mul_le_mul_right _ hn) _) hr
 | @rfS b off row e fr el cs vs' ps ts vs fp h0 hb hz hs hr hi _ ih1 ih2 =>
   exact .rfS (vs' :=vs') (by rw[AK];exact h0) hb (hF _ hz) (by rw[AK];exact hs) (by rw[AK];exact hr) (ih1 (by simp)) (ih2 hp)
 | rfL _ _ _ _ _ _ _ _ ih=>exact .dead (ih hp)
 | @rfO b off row e fr el cs vs' ps ts vs fp₁ fp₂ h0 hb hz hl hs hr hf hi _ ih1 ih2 =>
   exact .rfS (vs' :=vs') (by rw[AK];exact h0) hb (hp _ (mem_cons_self ..)) (by rw[AK];exact hs) (by rw[AK];exact hr) (ih1 fun f hf=>hp f (by simp[hf])) (ih2 fun f hf=>hp f (by simp[hf]))
 | rfX _ _ ih=>exact .dead (ih hp)
 | fnv hi _ ih1 ih2=>exact .fnv (ih1 (by simp)) (ih2 hp)
 | mvE _ ih=>exact .dead (ih hp)
 | mvX _ _ _ _ ih=>exact .dead (ih fun f hf=>hp f (by simp[hf]))
 | mvO _ _ _ _ _ _ _ _ ih=>exact .dead (ih fun f hf=>hp f (by simp[hf]))
 | bldN _ _ _ _ _ ih=>exact .dead (ih fun f hf=>hp f (by simp[hf]))
 | bldO _ _ _ _ _ _ _ _ _ _ _ _ _ ih=>exact .dead (ih fun f hf=>hp f (by simp[hf]))
theorem R.shareG {ps ts vs fp} (h:R w Fz Lt g ps ts vs fp) (hF:∀ b,Fz b→Fz' b) (hL:∀ b j,Lt b j→Fz' b) (hp:∀ f∈fp,Fz' f.b) :
  R w Fz' Lt' g' (sharesG g ps) ts vs []:=by
 induction h with
 | nil=>exact .nil
 | leaf h _ ih=>exact .leaf h (ih hp)
 | dead _ ih=>exact .dead (ih hp)
 | @slE fl el a cap ps ts vs fp h _ ih =>
   cases fl with
   | lent g'' =>
     simp only[sharesG,Pm.shareG]
     split
     ·exact .slE (by simp) (ih hp)
     ·exact .dead (ih hp)
   | own=>exact .slE (by simp) (ih hp)
   | shr=>exact .slE (by simp) (ih hp)
 | @slS b off n cap row e fr el cs vs' ps ts vs fp h0 hb hz hn hs hr hi _ ih1 ih2 =>
   exact .slS (vs' :=vs') (by rw[AP];exact h0) hb (hF _ hz) hn (by rw[AP];exact hs) (by rw[AP];exact hr) (by rw[← Ff];exact ih1 (by simp)) (ih2 hp)
 | @slL b off n cap row e fr el cs vs' ps ts vs fp h0 hb hl hn hs hr hi _ ih1 ih2 =>
   simp only[sharesG,Pm.shareG,if_true]
   rcases Nat.eq_zero_or_pos n with rfl | hpos
   ·have hcs:=hi.length_eq
    simp[rep] at hcs
    obtain ⟨rfl,rfl⟩:=hcs
    exact .slE (by simp) (ih2 hp)
   ·have:0<n * el.length:=Nat.mul_pos hpos h0
    exact .slS (vs' :=vs') (by rw[AP];exact h0) hb (hL _ _ (hl off (Nat.le_refl _) (by omega))) hn (by rw[AP];exact hs) (by rw[AP];exact hr) (by rw[← Ff];exact ih1 (by simp)) (ih2 hp)
 | @slX g'' el t v ps ts vs fp h _ ih =>
   simp only[sharesG,Pm.shareG]
   rw[if_neg (by omega)]
   exact .dead (ih hp)
 | @slH fl el a n cap ps ts vs fp _ ih =>
   cases fl with
   | lent g' =>
     simp only[sharesG,Pm.shareG]
     split
     ·exact .slH (ih hp)
     ·exact .dead (ih hp)
   | _=>exact .slH (ih hp)
 | @slO b off n cap row e fr el cs vs' ps ts vs fp₁ fp₂ h0 hb hz hl hn hs hr hf hi _ ih1 ih2 =>
   refine .slS (vs' :=vs') (by rw[AP];exact h0) hb (hp _ (mem_cons_self ..)) hn (by rw[AP];exact hs) ?_ (by rw[← Ff];exact ih1 fun f hf=>hp f (by simp[hf])) (ih2 fun f hf=>hp f (by simp[hf]))
   rw[AP]
   exact Nat.le_trans (Nat.add_le_add_left (Nat.mul_le_mul_right _ hn) _) hr
 | @rfS b off row e fr el cs vs' ps ts vs fp h0 hb hz hs hr hi _ ih1 ih2 =>
   exact .rfS (vs' :=vs') (by rw[AP];exact h0) hb (hF _ hz) (by rw[AP];exact hs) (by rw[AP];exact hr) (ih1 (by simp)) (ih2 hp)
 | @rfL b off row e fr el cs vs' ps ts vs fp h0 hb hl hs hr hi _ ih1 ih2 =>
   simp only[sharesG,Pm.shareG,if_true]
   exact .rfS (vs' :=vs') (by rw[AP];exact h0) hb (hL _ _ (hl _ (Nat.le_refl _) (by omega))) (by rw[AP];exact hs) (by rw[AP];exact hr) (ih1 (by simp)) (ih2 hp)
 | @rfO b off row e fr el cs vs' ps ts vs fp₁ fp₂ h0 hb hz hl hs hr hf hi _ ih1 ih2 =>
   exact .rfS (vs' :=vs') (by rw[AP];exact h0) hb (hp _ (mem_cons_self ..)) (by rw[AP];exact hs) (by rw[AP];exact hr) (ih1 fun f hf=>hp f (by simp[hf])) (ih2 fun f hf=>hp f (by simp[hf]))
 | @rfX g'' el t v ps ts vs fp h _ ih =>
   simp only[sharesG,Pm.shareG]
   rw[if_neg (by omega)]
   exact .dead (ih hp)
 | fnv hi _ ih1 ih2=>exact .fnv (ih1 (by simp)) (ih2 hp)
 | mvE _ ih=>exact .dead (ih hp)
 | mvX _ _ _ _ ih=>exact .dead (ih fun f hf=>hp f (by simp[hf]))
 | mvO _ _ _ _ _ _ _ _ ih=>exact .dead (ih fun f hf=>hp f (by simp[hf]))
 | bldN _ _ _ _ _ ih=>exact .dead (ih fun f hf=>hp f (by simp[hf]))
 | bldO _ _ _ _ _ _ _ _ _ _ _ _ _ ih=>exact .dead (ih fun f hf=>hp f (by simp[hf]))
theorem R.lentify {ps ts vs fp} (h:R w Fz Lt g ps ts vs fp) (hL:∀ b j,Lt b j→Lt' b j) (hp:∀ f∈fp,∀ j,f.lo≤j→j<f.hi→f.l≠0→Lt' f.b j) :
  R w Fz Lt' g (lentifies g ps) ts vs []:=by
 induction h with
 | nil=>exact .nil
 | leaf h _ ih=>exact .leaf h (ih hp)
 | dead _ ih=>exact .dead (ih hp)
 | @slE fl el a cap ps ts vs fp h _ ih =>
   cases fl with
   | lent g''=>exact .slE (by simp) (ih hp)
   | own=>exact .slE (by simp) (ih hp)
   | shr=>exact .slE (by simp) (ih hp)
 | @slS b off n cap row e fr el cs vs' ps ts vs fp h0 hb hz hn hs hr hi _ ih1 ih2 =>
   exact .slS h0 hb hz hn hs hr (hi.mono (Ab.refl w (fun _ _=>False)) (fun _ h=>h) hL (by simp) (by simp) (by simp)) (ih2 hp)
 | @slL b off n cap row e fr el cs vs' ps ts vs fp h0 hb hl hn hs hr hi _ ih1 ih2 =>
   exact .slL h0 hb (fun j a c=>hL _ _ (hl j a c)) hn hs hr (hi.mono (Ab.refl w (fun _ _=>False)) (fun _ h=>h) hL (by simp) (by simp) (by simp)) (ih2 hp)
 | slX h _ ih=>exact .slX h (ih hp)
 | @slH fl el a n cap ps ts vs fp _ ih=>cases fl <;>exact .slH (ih hp)
 | @slO b off n cap row e fr el cs vs' ps ts vs fp₁ fp₂ h0 hb hz hl hn hs hr hf hi _ ih1 ih2 =>
   simp only[lentifies,Pm.lentify]
   rcases Nat.eq_zero_or_pos n with rfl | hpos
   ·have hcs:=hi.length_eq
    simp[rep] at hcs
    obtain ⟨rfl,rfl⟩:=hcs
    exact .slE (by simp) (ih2 fun f hf=>hp f (by simp[hf]))
   ·have hq:0<n * el.length:=Nat.mul_pos hpos h0
    refine .slL (vs' :=vs') (by rw[Ad];exact h0) hb (fun j a c => ?_) hn (by rw[Ad];exact hs) ?_ (by rw[← GX];exact ih1 fun f hf=>hp f (by simp[hf])) (ih2 fun f hf=>hp f (by simp[hf]))
    ·rw[Ad] at c
     exact hp ⟨b,off,off+n * el.length,off+n * el.length,off+cap * el.length⟩ (by simp) j a c (by simp;omega)
    ·rw[Ad]
     exact Nat.le_trans (Nat.add_le_add_left (Nat.mul_le_mul_right _ hn) _) hr
 | @rfS b off row e fr el cs vs' ps ts vs fp h0 hb hz hs hr hi _ ih1 ih2 =>
   exact .rfS h0 hb hz hs hr (hi.mono (Ab.refl w (fun _ _=>False)) (fun _ h=>h) hL (by simp) (by simp) (by simp)) (ih2 hp)
 | @rfL b off row e fr el cs vs' ps ts vs fp h0 hb hl hs hr hi _ ih1 ih2 =>
   exact .rfL h0 hb (fun j a c=>hL _ _ (hl j a c)) hs hr (hi.mono (Ab.refl w (fun _ _=>False)) (fun _ h=>h) hL (by simp) (by simp) (by simp)) (ih2 hp)
 | @rfO b off row e fr el cs vs' ps ts vs fp₁ fp₂ h0 hb hz hl hs hr hf hi _ ih1 ih2=>exact .dead (ih2 fun f hf=>hp f (by simp[hf]))
 | rfX h _ ih=>exact .rfX h (ih hp)
 | mvE _ ih=>exact .dead (ih hp)
 | mvX _ _ _ _ ih=>exact .dead (ih fun f hf=>hp f (by simp[hf]))
 | mvO _ _ _ _ _ _ _ _ ih=>exact .dead (ih fun f hf=>hp f (by simp[hf]))
 | bldN _ _ _ _ _ ih=>exact .dead (ih fun f hf=>hp f (by simp[hf]))
 | bldO _ _ _ _ _ _ _ _ _ _ _ _ _ ih=>exact .dead (ih fun f hf=>hp f (by simp[hf]))
 | fnv hi _ ih1 ih2 =>
   exact .fnv (hi.mono (Ab.refl w (fun _ _=>False)) (fun _ h=>h) hL (by simp) (by simp) (by simp)) (ih2 hp)
theorem R.noLent {ps ts vs fp} (h:R w Fz Lt g ps ts vs fp) (hn:noLents ps=true) (hp:∀ f∈fp,∀ j,f.l≤j→¬ Lt' f.b j) :
  R w Fz Lt' g' ps ts vs fp:=by
 induction h with
 | nil=>exact .nil
 | leaf h _ ih=>simp[noLents] at hn;exact .leaf h (ih hn.2 hp)
 | dead _ ih=>simp[noLents] at hn;exact .dead (ih hn.2 hp)
 | slE h _ ih=>simp[noLents] at hn;exact .slE h (ih hn.2 hp)
 | slS h0 hb hz hn' hs hr hi _ ih1 ih2 =>
   simp[noLents,Pm.noLent] at hn
   exact .slS h0 hb hz hn' hs hr (ih1 (Il hn.1) (by simp)) (ih2 hn.2 hp)
 | slL=>simp[noLents,Pm.noLent] at hn
 | slX=>simp[noLents,Pm.noLent] at hn
 | @slH fl el a n cap ps ts vs fp _ ih =>
   simp only[noLents,zB] at hn
   exact .slH (ih hn.2 hp)
 | @slO b off n cap row e fr el cs vs' ps ts vs fp₁ fp₂ h0 hb hz hl hn' hs hr hf hi _ ih1 ih2 =>
   simp[noLents,Pm.noLent] at hn
   exact .slO h0 hb hz (hp ⟨b,off,off+n * el.length,off+n * el.length,off+cap * el.length⟩ (by simp)) hn' hs hr hf (ih1 (Il hn.1) fun f hf=>hp f (by simp[hf])) (ih2 hn.2 fun f hf=>hp f (by simp[hf]))
 | rfS h0 hb hz hs hr hi _ ih1 ih2 =>
   simp[noLents,Pm.noLent] at hn
   exact .rfS h0 hb hz hs hr (ih1 hn.1 (by simp)) (ih2 hn.2 hp)
 | rfL=>simp[noLents,Pm.noLent] at hn
 | rfX=>simp[noLents,Pm.noLent] at hn
 | @rfO b off row e fr el cs vs' ps ts vs fp₁ fp₂ h0 hb hz hl hs hr hf hi _ ih1 ih2 =>
   simp[noLents,Pm.noLent] at hn
   exact .rfO h0 hb hz (fun j=>hp ⟨b,off,off+el.length,0,off+el.length⟩ (by simp) j (Nat.zero_le _)) hs hr hf (ih1 hn.1 fun f hf=>hp f (by simp[hf])) (ih2 hn.2 fun f hf=>hp f (by simp[hf]))
 | mvE=>simp[noLents,Pm.noLent] at hn
 | mvX=>simp[noLents,Pm.noLent] at hn
 | mvO=>simp[noLents,Pm.noLent] at hn
 | @bldN b T e p ps ts vs fp hb hpp hz hl _ ih =>
   simp only[noLents,zB] at hn
   exact .bldN hb hpp hz (fun j=>hp ⟨b,0,2,0,2⟩ (by simp) j (Nat.zero_le _)) (ih hn.2 fun f hf=>hp f (by simp[hf]))
 | @bldO b T e p c n cap cur bs ps ts vs fp hb hpp hz hl hc hzc hlc h0 hn' hm hcs hbs _ ih =>
   simp only[noLents,zB] at hn
   exact .bldO hb hpp hz (fun j=>hp ⟨b,0,2,0,2⟩ (by simp) j (Nat.zero_le _)) hc hzc (fun j=>hp ⟨c,0,cap,0,cap+1⟩ (by simp) j (Nat.zero_le _)) h0 hn' hm hcs hbs (ih hn.2 fun f hf=>hp f (by simp[hf]))
 | fnv hi _ ih1 ih2 =>
   simp[noLents,Pm.noLent] at hn
   exact .fnv (ih1 hn.1 (by simp)) (ih2 hn.2 hp)
theorem R.bump {ps ts vs fp} (h:R w Fz Lt g ps ts vs fp) (hg:g<g'):R w Fz (fun _ _=>False) g' ps ts vs fp:=by
 induction h with
 | nil=>exact .nil
 | leaf h _ ih=>exact .leaf h ih
 | dead _ ih=>exact .dead ih
 | slE h _ ih=>exact .slE h ih
 | slS h0 hb hz hn hs hr hi _ ih1 ih2=>exact .slS h0 hb hz hn hs hr ih1 ih2
 | slL _ _ _ _ _ _ _ _ _ ih=>exact .slX hg ih
 | slX h _ ih=>exact .slX (by omega) ih
 | slH _ ih=>exact .slH ih
 | slO h0 hb hz hl hn hs hr hf hi _ ih1 ih2=>exact .slO h0 hb hz (by simp) hn hs hr hf ih1 ih2
 | rfS h0 hb hz hs hr hi _ ih1 ih2=>exact .rfS h0 hb hz hs hr ih1 ih2
 | rfL _ _ _ _ _ _ _ _ ih=>exact .rfX hg ih
 | rfO h0 hb hz hl hs hr hf hi _ ih1 ih2=>exact .rfO h0 hb hz (by simp) hs hr hf ih1 ih2
 | rfX h _ ih=>exact .rfX (by omega) ih
 | mvE _ ih=>exact .mvE ih
 | mvX h _ _ ih1 ih2=>exact .mvX (by omega) ih1 ih2
 | mvO _ _ _ _ _ _ _ ih1 ih2=>exact .mvX hg ih1 ih2
 | bldN hb hp hz hl _ ih=>exact .bldN hb hp hz (by simp) ih
 | bldO hb hp hz hl hc hzc hlc h0 hn hm hcs hbs _ ih=>exact .bldO hb hp hz (by simp) hc hzc (by simp) h0 hn hm hcs hbs ih
 | fnv hi _ ih1 ih2=>exact .fnv ih1 ih2
end
theorem Fl.beq_eq {a b:Fl} (h:a.beq b=true):a=b:=by
 cases a <;>cases b <;>simp_all [Fl.beq]
mutual
theorem Pm.beq_eq:∀ {a b:Pm},a.beq b=true→a=b
 | .leaf,b,h=>by cases b <;>simp_all [Pm.beq]
 | .dead,b,h=>by cases b <;>simp_all [Pm.beq]
 | .sl f el,b,h=>by
   cases b <;>simp[Pm.beq] at h
   rw[Fl.beq_eq h.1,pbeqs_eq h.2]
 | .rf f el,b,h=>by
   cases b <;>simp[Pm.beq] at h
   rw[Fl.beq_eq h.1,pbeqs_eq h.2]
 | .fn el,b,h=>by
   cases b <;>simp[Pm.beq] at h
   rw[pbeqs_eq h]
 | .mv g el,b,h=>by cases b <;>simp[Pm.beq] at h
 | .bld T e,b,h=>by
   cases b <;>simp[Pm.beq] at h
   rw[h.1,h.2]
theorem pbeqs_eq:∀ {a b:List Pm},pbeqs a b=true→a=b
 | [],b,h=>by cases b <;>simp_all [pbeqs]
 | p::ps,b,h=>by
   cases b <;>simp[pbeqs] at h
   rw[Pm.beq_eq h.1,pbeqs_eq h.2]
end
mutual
theorem Pm.clean3_noLent:∀ {p:Pm},p.clean3=true→p.noLent=true
 | .leaf,_=>rfl
 | .dead,_=>rfl
 | .sl f el,h=>by cases f <;>simp[Pm.clean3] at h <;>simp[Pm.noLent,clean3s_noLents h]
 | .rf f el,h=>by cases f <;>simp[Pm.clean3] at h <;>simp[Pm.noLent,clean3s_noLents h]
 | .fn el,h=>by simp[Pm.clean3] at h
 | .mv g el,h=>by simp[Pm.clean3] at h
 | .bld T e,h=>by simp[Pm.clean3] at h
theorem clean3s_noLents:∀ {ps:List Pm},clean3s ps=true→noLents ps=true
 | [],_=>rfl
 | p::ps,h=>by
   simp[clean3s] at h
   simp[noLents,Pm.clean3_noLent h.1,clean3s_noLents h.2]
end
mutual
theorem Pm.clean2_clean3:∀ {p:Pm},p.clean2=true→p.clean3=true
 | .leaf,_=>rfl
 | .dead,h=>by simp[Pm.clean3]
 | .sl f el,h=>by cases f <;>simp[Pm.clean2] at h <;>simp[Pm.clean3,clean2s_clean3s h]
 | .rf f el,h=>by cases f <;>simp[Pm.clean2] at h <;>simp[Pm.clean3,clean2s_clean3s h]
 | .fn el,h=>by simp[Pm.clean2] at h
 | .mv g el,h=>by simp[Pm.clean2] at h
 | .bld T e,h=>by simp[Pm.clean2] at h
theorem clean2s_clean3s:∀ {ps:List Pm},clean2s ps=true→clean3s ps=true
 | [],_=>rfl
 | p::ps,h=>by
   simp[clean2s] at h
   simp[clean3s,Pm.clean2_clean3 h.1,clean2s_clean3s h.2]
end
theorem Ju (a b:List Pm):clean2s (a++b)=(clean2s a&&clean2s b):=by
 induction a with
 | nil=>simp[clean2s]
 | cons p ps ih=>simp[clean2s,ih,Bool.and_assoc]
theorem M2 {n:Nat} {el:List Pm} (h:clean2s el=true):clean2s (rep n el)=true:=by
 induction n with
 | zero=>simp[rep,clean2s]
 | succ n ih=>simp[Ba,Ju,ih,h]
theorem R.anyFz {w:World} {Fz Fz':Nat→Prop} {Lt:Nat→Nat→Prop} {g:Nat} {ps ts vs fp} (h:R w Fz Lt g ps ts vs fp) (hc:clean2s ps=true) (hp:∀ f∈fp,¬ Fz' f.b) :
  R w Fz' Lt g ps ts vs fp:=by
 induction h with
 | nil=>exact .nil
 | leaf h _ ih=>simp[clean2s] at hc;exact .leaf h (ih hc.2 hp)
 | dead _ ih=>simp[clean2s] at hc;exact .dead (ih hc.2 hp)
 | slE h _ ih=>simp[clean2s] at hc;exact .slE h (ih hc.2 hp)
 | slS=>simp[clean2s,Pm.clean2] at hc
 | slL=>simp[clean2s,Pm.clean2] at hc
 | slX=>simp[clean2s,Pm.clean2] at hc
 | @slH fl el a n cap ps ts vs fp _ ih =>
   simp only[clean2s,zB] at hc
   exact .slH (ih hc.2 hp)
 | slO h0 hb hz hl hn' hs hr hf hi _ ih1 ih2 =>
   simp[clean2s,Pm.clean2] at hc
   exact .slO h0 hb (hp _ (mem_cons_self ..)) hl hn' hs hr hf (ih1 (M2 hc.1) fun f hf=>hp f (by simp[hf])) (ih2 hc.2 fun f hf=>hp f (by simp[hf]))
 | rfS=>simp[clean2s,Pm.clean2] at hc
 | rfL=>simp[clean2s,Pm.clean2] at hc
 | rfX=>simp[clean2s,Pm.clean2] at hc
 | rfO h0 hb hz hl hs hr hf hi _ ih1 ih2 =>
   simp[clean2s,Pm.clean2] at hc
   exact .rfO h0 hb (hp _ (mem_cons_self ..)) hl hs hr hf (ih1 hc.1 fun f hf=>hp f (by simp[hf])) (ih2 hc.2 fun f hf=>hp f (by simp[hf]))
 | fnv=>simp[clean2s,Pm.clean2] at hc
 | mvE=>simp[clean2s,Pm.clean2] at hc
 | mvX=>simp[clean2s,Pm.clean2] at hc
 | mvO=>simp[clean2s,Pm.clean2] at hc
 | bldN=>simp[clean2s,Pm.clean2] at hc
 | bldO=>simp[clean2s,Pm.clean2] at hc
section
variable {w:World} {Fz:Nat→Prop} {Lt:Nat→Nat→Prop} {g:Nat}
theorem MU {m j:Nat} {P:List Pm} (h:j<m * P.length):(rep m P)[j]?=P[j % P.length]? :=by
 induction m generalizing j with
 | zero=>simp at h
 | succ m ih =>
   rw[Ba]
   rcases Nat.lt_or_ge j P.length with hl | hl
   ·rw[List.getElem?_append_left hl,Nat.mod_eq_of_lt hl]
   ·rw[List.getElem?_append_right hl,ih (by rw[Nat.succ_mul] at h;omega),Nat.mod_eq_sub_mod hl]
theorem QX {sz e c:Nat} (h:c<sz):ix sz e c % sz=c:=by
 unfold ix
 split
 ·omega
 ·rw[Nat.add_comm,Nat.add_mul_mod_self_right,Nat.mod_eq_of_lt h]
theorem KQ {sz e c:Nat} (h:c<sz):ix sz e c=e * sz+c:=by
 unfold ix
 split
 ·omega
 ·rfl
theorem Bp {α:Type} {l:List α} {j:Nat} {x:α} (h:l[j]?=some x):l=l.take j++([x]++l.drop (j+1)):=by
 have hj:j<l.length:=by
  rcases Nat.lt_or_ge j l.length with h' | h'
  ·exact h'
  ·simp[List.getElem?_eq_none h'] at h
 have hx:l[j]=x:=by simpa [List.getElem?_eq_getElem hj] using h
 conv=>lhs;rw[← take_append_drop j l,drop_eq_getElem_cons hj,hx]
 simp
theorem IG {α:Type} {l:List α} {j:Nat} {x:α} (h:j<l.length):l.set j x=l.take j++([x]++l.drop (j+1)):=by
 rw[List.set_eq_take_append_cons_drop,if_pos h];simp
theorem R.at {ps ts vs fp} {j:Nat} {p:Pm} (h:R w Fz Lt g ps ts vs fp) (hp:ps[j]?=some p) :
  ∃ t v f1 f f2,ts[j]?=some t∧vs[j]?=some v∧fp=f1++(f++f2)∧R w Fz Lt g (ps.take j) (ts.take j) (vs.take j) f1 ∧
   R w Fz Lt g [p] [t] [v] f∧R w Fz Lt g (ps.drop (j+1)) (ts.drop (j+1)) (vs.drop (j+1)) f2:=by
 have hj:j<ps.length:=by
  rcases Nat.lt_or_ge j ps.length with h' | h'
  ·exact h'
  ·simp[List.getElem?_eq_none h'] at hp
 rw[Bp hp] at h
 obtain ⟨t1,t2,v1,v2,f1,f2,rfl,rfl,rfl,ha,hb⟩:=h.split
 obtain ⟨u1,u2,x1,x2,k1,k2,rfl,rfl,rfl,hc,hd⟩:=hb.split
 have l1:=ha.length_eq
 have l2:=hc.length_eq
 simp at l1 l2
 obtain ⟨t,rfl⟩:∃ t,u1=[t]:=length_eq_one_iff.1 l2.1
 obtain ⟨v,rfl⟩:∃ v,x1=[v]:=length_eq_one_iff.1 l2.2
 have e1:t1.length=j:=by omega
 have e2:v1.length=j:=by omega
 refine ⟨t,v,f1,k1,k2,?_,?_,rfl,?_,hc,?_⟩
 ·rw[List.getElem?_append_right (by omega)];simp[e1]
 ·rw[List.getElem?_append_right (by omega)];simp[e2]
 ·have a1:List.take j (t1++([t]++u2))=t1:=by rw[← e1];simp
  have a2:List.take j (v1++([v]++x2))=v1:=by rw[← e2];simp
  rw[a1,a2];exact ha
 ·have a1:List.drop (j+1) (t1++([t]++u2))=u2:=by rw[← e1];simp
  have a2:List.drop (j+1) (v1++([v]++x2))=x2:=by rw[← e2];simp
  rw[a1,a2];exact hd
def A8 (w:World):List Pm→List Value→Option (Nat × Nat)→List (Nat × Nat)→Option (List Pm × List Value × Option (Nat × Nat))
 | ps,vs,base,[]=>some (ps,vs,base)
 | ps,vs,_,(e,c)::path=>match ps[c]? with
   | some (.sl .own el)=>match vs[ix ps.length e c]? with
     | some (.slice (some ⟨b,off,none⟩) n _)=>match w.heap[b]? with
       | some (.cells row _ _)=>A8 w el (seg row off (n * el.length)) (some (b,off)) path
       | _=>none
     | _=>none
   | _=>none
structure Rq (w:World) (Fz:Nat→Prop) (Lt:Nat→Nat→Prop) (b o len:Nat) (rv:List Value) (row:Array Value) (e:TypeId) (fr:Nat × Nat) (fpO:Fp):Prop where
 hb:w.heap[b]?=some (.cells row e fr)
 seg:seg row o len=rv
 size:o+len≤row.size
 free:∀ j,o≤j→j<o+len→¬ (fr.1≤j∧j<fr.2)
 own:∃ f∈fpO,f.b=b∧f.lo=o∧f.hi=o+len∧f.l=o+len
theorem QK {f1 fp1 f2:Fp} {x:Fe} (h:((f1++((x::fp1++[])++f2)).map Fe.b).Nodup) :
  (fp1.map Fe.b).Nodup∧x.b ∉ fp1.map Fe.b∧∀ f'∈f1++f2,f'.b≠x.b∧f'.b ∉ fp1.map Fe.b:=by
 simp only[append_nil,map_append,map_cons,nodup_append,cons_append,nodup_cons,mem_append,mem_map,mem_cons,not_or] at h ⊢
 obtain ⟨h1,⟨⟨h2,h3⟩,h4,h5,h6⟩,h7⟩:=h
 refine ⟨h4,h2,?_⟩
 rintro f' (hf | hf)
 ·refine ⟨h7 _ ⟨f',hf,rfl⟩ _ (.inl rfl),?_⟩
  rintro ⟨q,hq,hqe⟩
  exact h7 _ ⟨f',hf,rfl⟩ _ (.inr (.inl ⟨q,hq,rfl⟩)) hqe.symm
 ·refine ⟨fun hE=>h3 ⟨f',hf,hE⟩,?_⟩
  rintro ⟨q,hq,hqe⟩
  exact h6 _ ⟨q,hq,rfl⟩ _ ⟨f',hf,rfl⟩ hqe
theorem R.focusW (path:List (Nat × Nat)):∀ {P T V fp m el rcs} (base0:Option (Nat × Nat)),R w Fz Lt g (rep m P) T V fp→(fp.map Fe.b).Nodup →
  rowAt P T path=some (el,rcs)→rcs≠[] →
  ∃ m' rv base fpI fpO,A8 w P V base0 path=some (el,rv,base)∧R w Fz Lt g (rep m' el) rcs rv fpI∧fp.Perm (fpI++fpO) ∧
   (path=[]→m'=m∧rv=V∧base=base0∧fpO=[]) ∧
   (path≠[]→∃ b o row e fr,base=some (b,o)∧Rq w Fz Lt b o (m' * el.length) rv row e fr fpO) ∧
   ∀ (W:Nat→Nat→Prop) (w':World) rcs' rv' fpI',Ab w w' W→(∀ b j,Fz b→¬ W b j)→(∀ b j,Lt b j→¬ W b j) →
    (∀ f∈fpO,(∀ b o,base=some (b,o)→f.b≠b)→∀ j,f.lo≤j→(j<f.hi∨j=f.lo)→¬ W f.b j) →
    R w' Fz Lt g (rep m' el) rcs' rv' fpI' →
    (∀ b o,base=some (b,o)→path≠[]→∃ row' e fr,w'.heap[b]?=some (.cells row' e fr)∧seg row' o (m' * el.length)=rv'∧∀ row0 e0 fr0,w.heap[b]?=some (.cells row0 e0 fr0)→fr=fr0) →
    ∃ fp',R w' Fz Lt g (rep m P) (Ah P T path (fun _=>rcs')) (if path=[] then rv' else V) fp'∧fp'.Perm (fpI'++fpO):=by
 induction path with
 | nil =>
   intro P T V fp m el rcs base0 h hn hr hne
   simp only[rowAt,zS,zP] at hr
   obtain ⟨rfl,rfl⟩:=hr
   refine ⟨m,V,base0,fp,[],rfl,h,by simp,fun _=>⟨rfl,rfl,rfl,rfl⟩,fun hc=>absurd rfl hc,?_⟩
   intro W w' rcs' rv' fpI' _ _ _ _ hR _
   exact ⟨fpI',by simpa [Ah] using hR,by simp⟩
 | cons ec path ih =>
   obtain ⟨e,c⟩:=ec
   intro P T V fp m el rcs base0 h hn hr hne
   simp only[rowAt] at hr
   cases hP:P[c]? with
   | none=>simp[hP] at hr
   | some p =>
     cases p with
     | sl fl el1 =>
       cases fl with
       | own =>
         simp only[hP] at hr
         have hc:c<P.length:=by
          rcases Nat.lt_or_ge c P.length with h' | h'
          ·exact h'
          ·simp[List.getElem?_eq_none h'] at hP
         cases hT:T[ix P.length e c]? with
         | none=>simp[hT] at hr
         | some t =>
           cases t with
           | lst n cs' =>
             simp only[hT] at hr
             generalize hj:ix P.length e c=j at *
             have hjT:j<T.length:=by
              rcases Nat.lt_or_ge j T.length with h' | h'
              ·exact h'
              ·simp[List.getElem?_eq_none h'] at hT
             have hlen:=h.length_eq
             rw[A6] at hlen
             have hrep:(rep m P)[j]?=some (.sl .own el1):=by
              rw[MU (by omega),← hj,QX hc,hP]
             obtain ⟨t,v,f1,f,f2,ht,hv,rfl,ha,hm,hz⟩:=h.at hrep
             rw[hT] at ht
             obtain rfl:=Option.some.inj ht
             cases hm with
             | slE hf r =>
               exfalso
               cases path with
               | nil=>simp[rowAt] at hr;exact hne hr.2
               | cons ec' p'=>obtain ⟨e',c'⟩:=ec';simp only[rowAt] at hr;split at hr <;>simp at hr
             | @slO b off _ cap row ety fr _ _ vs' _ _ _ fp₁ fp₂ h0 hb hFz hLt hcap hs hsz hfree hi r =>
               cases r
               obtain ⟨hnI,hbn,hnn⟩:=QK hn
               obtain ⟨m',rv,base,fpI,fpO,hcr,hRI,hperm,hnil,hcons,hset⟩:=ih (some (b,off)) hi hnI hr hne
               have hvs:A8 w P V base0 ((e,c)::path)=some (el,rv,base):=by
                simp only[A8,hP,hj,hv,hb,hs];exact hcr
               refine ⟨m',rv,base,fpI,⟨b,off,off+n * el1.length,off+n * el1.length,off+cap * el1.length⟩::(fpO++(f1++f2)),hvs,hRI,?_,fun hc=>by simp at hc,fun _ => ?_,?_⟩
               ·rw[perm_iff_count] at hperm ⊢
                intro a
                have:=hperm a
                simp only[count_append,List.count_cons,append_nil,cons_append] at this ⊢
                omega
               ·cases path with
                | nil =>
                  obtain ⟨rfl,rfl,rfl,rfl⟩:=hnil rfl
                  simp only[rowAt,zS,zP] at hr
                  obtain ⟨rfl,rfl⟩:=hr
                  exact ⟨b,off,row,ety,fr,rfl,hb,hs,Nat.le_trans (Nat.add_le_add_left (Nat.mul_le_mul_right _ hcap) _) hsz,
                   fun j a c=>hfree (Nat.pos_of_ne_zero fun h1=>by subst h1;have:=Nat.le_zero.1 hcap;subst this;simp at c;omega) j a,_,mem_cons_self ..,rfl,rfl,rfl,rfl⟩
                | cons x y =>
                  obtain ⟨b',o',row',e',fr',hbase,hrow⟩:=hcons (by simp)
                  obtain ⟨fe,hfe,hx⟩:=hrow.own
                  exact ⟨b',o',row',e',fr',hbase,hrow.hb,hrow.seg,hrow.size,hrow.free,fe,by simp[hfe],hx⟩
               ·intro W w' rcs' rv' fpI' hx wF wL wO hR hbk
                have hbase_in:∀ b' o',base=some (b',o')→b'=b∨b'∈fp₁.map Fe.b:=by
                 intro b' o' hB
                 cases path with
                 | nil =>
                   obtain ⟨_,_,hb',_⟩:=hnil rfl
                   rw[hb'] at hB;simp at hB;exact .inl hB.1.symm
                 | cons x y =>
                   obtain ⟨b'',o'',_,_,_,hB',hrow⟩:=hcons (by simp)
                   rw[hB] at hB';simp at hB'
                   obtain ⟨fe,hfe,hx',_⟩:=hrow.own
                   refine .inr (mem_map.2 ⟨fe,hperm.mem_iff.2 (by simp[hfe]),?_⟩)
                   rw[hx',hB'.1]
                have hside:∀ f'∈f1++f2,∀ j',f'.lo≤j'→(j'<f'.hi∨j'=f'.lo)→¬ W f'.b j' :=by
                 intro f' hf'
                 refine wO f' (mem_cons_of_mem _ (mem_append_right _ hf')) fun b' o' hB hE => ?_
                 rcases hbase_in b' o' hB with rfl | hm
                 ·exact (hnn f' hf').1 hE
                 ·exact (hnn f' hf').2 (hE ▸ hm)
                have hA:=ha.mono (Fz' :=Fz) (Lt' :=Lt) hx (fun _ h=>h) (fun _ _ h=>h) wF wL (fun f' hf'=>⟨hside f' (by simp[hf']),(ha.lt f' hf').2.2.2,?lta⟩)
                case lta=>exact (R.noLtAbove ha f' hf')
                have hB:=hz.mono (Fz' :=Fz) (Lt' :=Lt) hx (fun _ h=>h) (fun _ _ h=>h) wF wL (fun f' hf'=>⟨hside f' (by simp[hf']),(hz.lt f' hf').2.2.2,?ltb⟩)
                case ltb=>exact (R.noLtAbove hz f' hf')
                obtain ⟨row1,fr1,c1,c2,c3,c4⟩:=hx.cells b row ety fr hb
                obtain ⟨fp1',vs1,hRC,hP1,hseg,hfr1⟩:∃ fp1' vs1,R w' Fz Lt g (rep n el1) (Ah el1 cs' path (fun _=>rcs')) vs1 fp1'∧fp1'.Perm (fpI'++fpO)∧seg row1 off (n * el1.length)=vs1∧(0<cap→fr1=fr):=by
                 have hsub:=hset W w' rcs' rv' fpI' hx wF wL (fun f' hf' hne'=>wO f' (by simp[hf']) hne') hR
                  (fun b' o' hB hp=>hbk b' o' hB (by simp))
                 obtain ⟨fp1',hRC,hP1⟩:=hsub
                 cases path with
                 | nil =>
                   obtain ⟨rfl,rfl,hbb,rfl⟩:=hnil rfl
                   simp only[rowAt,zS,zP] at hr
                   obtain ⟨rfl,rfl⟩:=hr
                   obtain ⟨row',e',fr',hb',hs',hfr'⟩:=hbk b off hbb (by simp)
                   rw[c1] at hb'
                   obtain ⟨rfl,rfl,rfl⟩:row1=row'∧ety=e'∧fr1=fr' :=by simpa using hb'
                   exact ⟨fp1',rv',by simpa using hRC,hP1,hs',fun _=>hfr' _ _ _ hb⟩
                 | cons x y =>
                   have hno:∀ j',off≤j'→(j'<off+n * el1.length∨j'=off)→¬ W b j' :=fun j' a' c'=>wO ⟨b,off,off+n * el1.length,off+n * el1.length,off+cap * el1.length⟩ (mem_cons_self ..) (fun b' o' hB hE => ?_) j' a' c'
                   ·refine ⟨fp1',vs',by simpa using hRC,hP1,?_,fun hc=>c4.elim id fun x => ?_⟩
                    ·rw[← hs]
                     exact Aw fun j' a' c'=>c3 j' (hno j' a' (.inl c'))
                    ·have:0<cap * el1.length:=Nat.mul_pos hc h0
                     exact absurd (x.2 off (by omega)) (hno off (Nat.le_refl _) (.inr rfl))
                   obtain ⟨b'',o'',_,_,_,hB',hrow⟩:=hcons (by simp)
                   rw[hB] at hB';simp at hB'
                   obtain ⟨fe,hfe,hx',_⟩:=hrow.own
                   refine hbn (mem_map.2 ⟨fe,hperm.mem_iff.2 (by simp[hfe]),?_⟩)
                   rw[hx',← hB'.1];exact hE.symm
                have hcell:R w' Fz Lt g [.sl .own el1] [.lst n (Ah el1 cs' path (fun _=>rcs'))] [.slice (some ⟨b,off,none⟩) n cap] (⟨b,off,off+n * el1.length,off+n * el1.length,off+cap * el1.length⟩::fp1'++[]) :=
                 .slO h0 c1 hFz hLt hcap hseg (by omega) (fun hc=>by rw[hfr1 hc];exact hfree hc) hRC .nil
                refine ⟨f1++((⟨b,off,off+n * el1.length,off+n * el1.length,off+cap * el1.length⟩::fp1'++[])++f2),?_,?_⟩
                ·have:=hA.append (hcell.append hB)
                 rw[if_neg (by simp)]
                 have e1:rep m P=(rep m P).take j++([.sl .own el1]++(rep m P).drop (j+1)):=Bp hrep
                 have e2:V=V.take j++([.slice (some ⟨b,off,none⟩) n cap]++V.drop (j+1)):=Bp hv
                 have e3:Ah P T ((e,c)::path) (fun _=>rcs')=T.take j++([.lst n (Ah el1 cs' path (fun _=>rcs'))]++T.drop (j+1)):=by
                  simp only[Ah,hP,hj,hT]
                  exact IG hjT
                 rw[e3]
                 conv=>lhs
                 rw[e1,e2]
                 exact this
                ·rw[perm_iff_count] at hP1 ⊢
                 intro a
                 have:=hP1 a
                 simp only[count_append,List.count_cons,append_nil,cons_append] at this ⊢
                 omega
           | _=>simp[hT] at hr
       | _=>simp[hP] at hr
     | _=>simp[hP] at hr
theorem R.focus {W:Nat→Nat→Prop} (path:List (Nat × Nat)) {P T V fp m el rcs} (base0:Option (Nat × Nat)) (h:R w Fz Lt g (rep m P) T V fp) (hn:(fp.map Fe.b).Nodup)
  (hr:rowAt P T path=some (el,rcs)) (hne:rcs≠[]) :
  ∃ m' rv base fpI fpO,A8 w P V base0 path=some (el,rv,base)∧R w Fz Lt g (rep m' el) rcs rv fpI∧fp.Perm (fpI++fpO) ∧
   (path=[]→m'=m∧rv=V∧base=base0∧fpO=[]) ∧
   (path≠[]→∃ b o row e fr,base=some (b,o)∧Rq w Fz Lt b o (m' * el.length) rv row e fr fpO) ∧
   ∀ (w':World) rcs' rv' fpI',Ab w w' W→(∀ b j,Fz b→¬ W b j)→(∀ b j,Lt b j→¬ W b j) →
    (∀ f∈fpO,(∀ b o,base=some (b,o)→f.b≠b)→∀ j,f.lo≤j→(j<f.hi∨j=f.lo)→¬ W f.b j) →
    R w' Fz Lt g (rep m' el) rcs' rv' fpI' →
    (∀ b o,base=some (b,o)→path≠[]→∃ row' e fr,w'.heap[b]?=some (.cells row' e fr)∧seg row' o (m' * el.length)=rv'∧∀ row0 e0 fr0,w.heap[b]?=some (.cells row0 e0 fr0)→fr=fr0) →
    ∃ fp',R w' Fz Lt g (rep m P) (Ah P T path (fun _=>rcs')) (if path=[] then rv' else V) fp'∧fp'.Perm (fpI'++fpO):=by
 obtain ⟨m',rv,base,fpI,fpO,h1,h2,h3,h4,h5,h6⟩:=R.focusW path base0 h hn hr hne
 exact ⟨m',rv,base,fpI,fpO,h1,h2,h3,h4,h5,h6 W⟩
end
theorem Bh:∀ {cs:List T} {i n:Nat} {r:List T},CG cs i n=some r→r=(cs.drop i).take n∧r.length=n∧(0<n→i+n≤cs.length)
 | cs,i,0,r,h=>by simp[CG] at h;simp[h.symm]
 | cs,i,n+1,r,h=>by
   simp only[CG] at h
   cases hc:cs[i]? with
   | none=>simp[hc] at h
   | some t =>
     simp only[hc] at h
     cases hr:CG cs (i+1) n with
     | none=>simp[hr] at h
     | some r' =>
       simp only[hr,zS] at h
       obtain ⟨h1,h2,h3⟩:=Bh hr
       have hi:i<cs.length:=by
        rcases Nat.lt_or_ge i cs.length with h' | h'
        ·exact h'
        ·simp[List.getElem?_eq_none h'] at hc
       have ht:cs[i]=t:=by simpa [List.getElem?_eq_getElem hi] using hc
       refine ⟨?_,by simp[← h,h2],fun _ => ?_⟩
       ·rw[← h,h1,drop_eq_getElem_cons hi,take_succ_cons,ht]
       ·rcases Nat.eq_zero_or_pos n with rfl | hn
        ·omega
        ·have:=h3 hn;omega
theorem GG {cs:List T} {i n:Nat} (h:i+n≤cs.length):CG cs i n=some ((cs.drop i).take n):=by
 induction n generalizing i with
 | zero=>simp[CG]
 | succ n ih =>
   have hi:i<cs.length:=by omega
   simp only[CG,List.getElem?_eq_getElem hi,ih (i:=i+1) (by omega),zS]
   rw[drop_eq_getElem_cons hi,take_succ_cons]
theorem An:∀ {cs:List Pm} {i n:Nat} {r:List Pm},BO cs i n=some r→r=(cs.drop i).take n∧r.length=n∧(0<n→i+n≤cs.length)
 | cs,i,0,r,h=>by simp[BO] at h;simp[h.symm]
 | cs,i,n+1,r,h=>by
   simp only[BO] at h
   cases hc:cs[i]? with
   | none=>simp[hc] at h
   | some t =>
     simp only[hc] at h
     cases hr:BO cs (i+1) n with
     | none=>simp[hr] at h
     | some r' =>
       simp only[hr,zS] at h
       obtain ⟨h1,h2,h3⟩:=An hr
       have hi:i<cs.length:=by
        rcases Nat.lt_or_ge i cs.length with h' | h'
        ·exact h'
        ·simp[List.getElem?_eq_none h'] at hc
       have ht:cs[i]=t:=by simpa [List.getElem?_eq_getElem hi] using hc
       refine ⟨?_,by simp[← h,h2],fun _ => ?_⟩
       ·rw[← h,h1,drop_eq_getElem_cons hi,take_succ_cons,ht]
       ·rcases Nat.eq_zero_or_pos n with rfl | hn
        ·omega
        ·have:=h3 hn;omega
theorem Md {α:Type} {cs:List α} {t:α} {ts:List α} {i:Nat} (h:i+(ts.length+1)≤cs.length) :
  (cs.set i t).take (i+1)++(ts++(cs.set i t).drop (i+1+ts.length))=cs.take i++(t::ts++cs.drop (i+(ts.length+1))):=by
 apply List.ext_getElem?
 intro k
 simp only[List.getElem?_append,List.getElem?_take,List.getElem?_drop,List.getElem?_set,length_take,List.length_set,List.getElem?_cons,cons_append]
 grind
theorem Lp {cs ts:List T} {i:Nat} (h:i+ts.length≤cs.length):Aj cs i ts=cs.take i++(ts++cs.drop (i+ts.length)):=by
 induction ts generalizing cs i with
 | nil=>simp[Aj]
 | cons t ts ih =>
   simp only[length_cons] at h ⊢
   simp only[Aj]
   rw[ih (by simp;omega),Md h]
theorem KD {cs ts:List Pm} {i:Nat} (h:i+ts.length≤cs.length):BH cs i ts=cs.take i++(ts++cs.drop (i+ts.length)):=by
 induction ts generalizing cs i with
 | nil=>simp[BH]
 | cons t ts ih =>
   simp only[length_cons] at h ⊢
   simp only[BH]
   rw[ih (by simp;omega),Md h]
theorem KO {α:Type} (l:List α) (i n:Nat):l=l.take i++((l.drop i).take n++l.drop (i+n)):=by
 rw[← drop_drop,take_append_drop,take_append_drop]
theorem Ps {α:Type} {l t1 u1 u2:List α} {N i n:Nat} (h:l=t1++(u1++u2)) (hl:l.length=N) (h1:t1.length=min i N) (h2:u1.length=min n (N - i)) :
  l.take i=t1∧(l.drop i).take n=u1∧l.drop (i+n)=u2:=by
 subst h
 simp only[length_append] at hl
 rcases Nat.le_total i N with hi | hi
 ·have e1:t1.length=i:=by omega
  subst e1
  refine ⟨by simp,?_,?_⟩
  ·rw[List.drop_left]
   rcases Nat.le_total n (N - t1.length) with hn | hn
   ·have e2:u1.length=n:=by omega
    rw[← e2,List.take_left]
   ·have e2:u2=[]:=length_eq_zero_iff.1 (by omega)
    subst e2
    simp only[append_nil]
    exact List.take_of_length_le (by omega)
  ·rw[← drop_drop,List.drop_left]
   rcases Nat.le_total n (N - t1.length) with hn | hn
   ·have e2:u1.length=n:=by omega
    rw[← e2,List.drop_left]
   ·have e2:u2=[]:=length_eq_zero_iff.1 (by omega)
    subst e2
    simp only[append_nil]
    exact List.drop_of_length_le (by omega)
 ·have e1:u1=[]:=length_eq_zero_iff.1 (by omega)
  have e2:u2=[]:=length_eq_zero_iff.1 (by omega)
  subst e1 e2
  simp only[append_nil]
  refine ⟨List.take_of_length_le (by omega),?_,List.drop_of_length_le (by omega)⟩
  rw[List.drop_of_length_le (by omega)];simp
section
variable {w w':World} {Fz Fz':Nat→Prop} {Lt Lt':Nat→Nat→Prop} {g:Nat}
theorem R.range {ps ts vs fp} (h:R w Fz Lt g ps ts vs fp) (i n:Nat) :
  ∃ f1 f f2,fp=f1++(f++f2)∧R w Fz Lt g (ps.take i) (ts.take i) (vs.take i) f1 ∧
   R w Fz Lt g ((ps.drop i).take n) ((ts.drop i).take n) ((vs.drop i).take n) f∧R w Fz Lt g (ps.drop (i+n)) (ts.drop (i+n)) (vs.drop (i+n)) f2:=by
 have hl:=h.length_eq
 have h' :=h
 rw[KO ps i n] at h'
 obtain ⟨t1,t2,v1,v2,f1,f2,ht,hv,rfl,ha,hb⟩:=h'.split
 obtain ⟨u1,u2,x1,x2,k1,k2,ht2,hv2,rfl,hc,hd⟩:=hb.split
 have la:=ha.length_eq
 have lc:=hc.length_eq
 subst ht2;subst hv2
 have e1:=Ps (N:=ps.length) (i:=i) (n:=n) ht hl.1 (by rw[la.1];simp) (by rw[lc.1];simp)
 have e2:=Ps (N:=ps.length) (i:=i) (n:=n) hv hl.2 (by rw[la.2];simp) (by rw[lc.2];simp)
 obtain ⟨rfl,rfl,rfl⟩:=e1
 obtain ⟨rfl,rfl,rfl⟩:=e2
 exact ⟨f1,k1,k2,rfl,ha,hc,hd⟩
theorem KC {m e c n:Nat} {el p:List Pm} (hp:BO el c n=some p) (hn:0<n) (hlen:ix el.length e c+n≤m * el.length) :
  ((rep m el).drop (ix el.length e c)).take n=p:=by
 obtain ⟨rfl,_,hle⟩:=An hp
 have hle:=hle hn
 have hc:c<el.length:=by omega
 rw[KQ hc] at hlen ⊢
 apply List.ext_getElem?
 intro k
 rw[List.getElem?_take,List.getElem?_take]
 split
 ·rename_i hk
  rw[List.getElem?_drop,List.getElem?_drop,MU (by omega)]
  congr 1
  have:(e * el.length+c+k)=(c+k)+e * el.length:=by omega
  rw[this,Nat.add_mul_mod_self_right,Nat.mod_eq_of_lt (by omega)]
 ·rfl
theorem R.sub {m e c n:Nat} {el p rcs cs rv fp} (h:R w Fz Lt g (rep m el) rcs rv fp) (hp:BO el c n=some p)
  (hc:CG rcs (ix el.length e c) n=some cs) :
  ∃ f,(∀ x∈f,x∈fp)∧R w Fz Lt g p cs ((rv.drop (ix el.length e c)).take n) f:=by
 rcases Nat.eq_zero_or_pos n with rfl | hn
 ·simp[BO] at hp;simp[CG] at hc
  subst hp hc
  exact ⟨[],by simp,by simpa using R.nil⟩
 ·obtain ⟨rfl,_,hle⟩:=Bh hc
  have hle:=hle hn
  rw[h.length_eq.1,A6] at hle
  obtain ⟨f1,f,f2,rfl,ha,hb,hd⟩:=h.range (ix el.length e c) n
  refine ⟨f,by simp +contextual,?_⟩
  rw[KC hp hn hle] at hb
  exact hb
theorem R.resub {m e c n:Nat} {el p rcs cs rv fp} (h:R w Fz Lt g (rep m el) rcs rv fp) (hp:BO el c n=some p)
  (hc:CG rcs (ix el.length e c) n=some cs) (hn:0<n) :
  ∃ f1 f f2,fp=f1++(f++f2)∧ix el.length e c+n≤m * el.length∧R w Fz Lt g p cs ((rv.drop (ix el.length e c)).take n) f ∧
   ∀ (w':World) (W:Nat→Nat→Prop) cs' vs' f',Ab w w' W→(∀ b j,Fz b→¬ W b j)→(∀ b j,Lt b j→¬ W b j) →
    (∀ x∈f1++f2,∀ j,x.lo≤j→(j<x.hi∨j=x.lo)→¬ W x.b j)→R w' Fz Lt g p cs' vs' f' →
    R w' Fz Lt g (rep m el) (Aj rcs (ix el.length e c) cs') (rv.take (ix el.length e c)++(vs'++rv.drop (ix el.length e c+n))) (f1++(f'++f2)):=by
 obtain ⟨hcs,hl,hle⟩:=Bh hc
 have hle:=hle hn
 have hlr:=h.length_eq
 rw[A6] at hlr
 rw[hlr.1] at hle
 obtain ⟨f1,f,f2,rfl,ha,hb,hd⟩:=h.range (ix el.length e c) n
 have hb0:=hb
 rw[KC hp hn hle,← hcs] at hb
 refine ⟨f1,f,f2,rfl,hle,hb,?_⟩
 intro w' W cs' vs' f' hx wF wL wO hR
 have hpl:=hR.length_eq
 have hpn:p.length=n:=(An hp).2.1
 rw[Lp (by omega),hpl.1,hpn]
 have hA:=ha.mono (Fz' :=Fz) (Lt' :=Lt) hx (fun _ h=>h) (fun _ _ h=>h) wF wL (fun x hx'=>⟨wO x (by simp[hx']),(ha.lt x hx').2.2.2,ha.noLtAbove x hx'⟩)
 have hD:=hd.mono (Fz' :=Fz) (Lt' :=Lt) hx (fun _ h=>h) (fun _ _ h=>h) wF wL (fun x hx'=>⟨wO x (by simp[hx']),(hd.lt x hx').2.2.2,hd.noLtAbove x hx'⟩)
 have:=hA.append (hR.append hD)
 rw[KO (rep m el) (ix el.length e c) n,KC hp hn hle]
 exact this
theorem R.resubP {c n:Nat} {P p cs rcs rv fp} (h:R w Fz Lt g P rcs rv fp) (hp:BO P c n=some p)
  (hc:CG rcs c n=some cs) (hn:0<n) :
  ∃ f1 f f2,fp=f1++(f++f2)∧c+n≤P.length∧R w Fz Lt g p cs ((rv.drop c).take n) f ∧
   ∀ (w':World) (Lt':Nat→Nat→Prop) (W:Nat→Nat→Prop) p' cs' vs' f',Ab w w' W→(∀ b j,Lt b j→Lt' b j)→(∀ b j,Fz b→¬ W b j)→(∀ b j,Lt b j→¬ W b j) →
    (∀ x∈f1++f2,(∀ j,x.lo≤j→(j<x.hi∨j=x.lo)→¬ W x.b j)∧∀ j,x.l≤j→¬ Lt' x.b j)→R w' Fz Lt' g p' cs' vs' f'→p'.length=n →
    R w' Fz Lt' g (BH P c p') (Aj rcs c cs') (rv.take c++(vs'++rv.drop (c+n))) (f1++(f'++f2)):=by
 obtain ⟨hcs,hl,hle⟩:=Bh hc
 obtain ⟨hps,hpl,_⟩:=An hp
 have hle:=hle hn
 have hlr:=h.length_eq
 rw[hlr.1] at hle
 obtain ⟨f1,f,f2,rfl,ha,hb,hd⟩:=h.range c n
 rw[← hcs,← hps] at hb
 refine ⟨f1,f,f2,rfl,hle,hb,?_⟩
 intro w' Lt' W p' cs' vs' f' hx hL wF wL wO hR hp'
 have hpl' :=hR.length_eq
 rw[Lp (by omega),KD (by omega),hpl'.1,hp']
 have hA:=ha.mono (Fz' :=Fz) (Lt' :=Lt') hx (fun _ h=>h) hL wF wL (fun x hx'=>⟨(wO x (by simp[hx'])).1,(ha.lt x hx').2.2.2,(wO x (by simp[hx'])).2⟩)
 have hD:=hd.mono (Fz' :=Fz) (Lt' :=Lt') hx (fun _ h=>h) hL wF wL (fun x hx'=>⟨(wO x (by simp[hx'])).1,(hd.lt x hx').2.2.2,(wO x (by simp[hx'])).2⟩)
 exact hA.append (hR.append hD)
end
def IV (P:Program) (w:World) (Fz:Nat→Prop) (name:String) (X:Array Value→Prop):Prop :=
 ∀ g,P.globalNamed name=some g→Fz g∧∃ row e fr,w.heap[g]?=some (.cells row e fr)∧0<row.size∧X row
def Gs (name:String) (row:Array Value):Prop :=
 if name = "internal/bytealg.MaxLen" then ∃ m : Int, row = #[.int .i64 m]
 else if name = "internal/strconv.uint64pow10" then row = ((List.range 20).map fun i => Value.int .u64 ((10 ^ i : Nat) : Int)).toArray
 else ∃ te pe,row = #[.iface te pe]
def Laid (P:Program) (L:List String) (w:World) (Fz:Nat→Prop):Prop:=∀ n∈L,IV P w Fz n (Gs n)
theorem IV.keep {P:Program} {w w':World} {Fz Fz':Nat→Prop} {W:Nat→Nat→Prop} {name:String} {X:Array Value→Prop} (h:IV P w Fz name X) (hx:Ab w w' W) (hW:∀ b j,Fz b→¬ W b j) (hF:∀ b,Fz b→Fz' b):IV P w' Fz' name X:=by
 intro g hg
 obtain ⟨h1,row,e,fr,h2,h3,h4⟩:=h g hg
 exact ⟨hF g h1,row,e,fr,hx.kept h2 (fun j _=>hW g j h1) h3,h3,h4⟩
theorem Laid.keep {P:Program} {L:List String} {w w':World} {Fz Fz':Nat→Prop} {W:Nat→Nat→Prop} (h:Laid P L w Fz) (hx:Ab w w' W) (hW:∀ b j,Fz b→¬ W b j) (hF:∀ b,Fz b→Fz' b):Laid P L w' Fz' :=
 fun n hn=>(h n hn).keep hx hW hF
theorem Laid.none {P:Program} {w:World} {Fz:Nat→Prop}:Laid P [] w Fz:=fun _ h=>absurd h (by simp)
structure BU where
 P:Program
 E:AX
 w0:World
 Fz:Nat→Prop
 mfp:Fp
 pinv:Nat→List Value
 fx:List (Nat × Value)
def Mut (mfp:Fp) (b j:Nat):Prop:=∃ y∈mfp,y.b=b∧y.lo≤j∧j<y.t
abbrev BU.Mut (C:BU):Nat→Nat→Prop:=Desk.Mut C.mfp
def BU.Ok (C:BU) (f:Fe):Prop:=C.w0.heap.size≤f.b∨∃ y∈C.mfp,y.b=f.b∧y.lo≤f.lo∧f.t≤y.t
def AD (agg:Bool) (v:Value) (vs:List Value):Prop:=if agg then v = .agg vs.toArray else vs=[v]
theorem AD.uniq {a:Bool} {v:Value} {vs vs':List Value} (h:AD a v vs) (h':AD a v vs'):vs=vs' :=by
 cases a
 ·simp only[AD] at h h';simp_all
 ·simp only[AD,if_true] at h h'
  subst h;simpa using h'
def AY (w:World) (v:Value):AA→List Value→Option (Nat × Nat)→Prop
 | .val a _ _ _ _,vs,base=>AD a v vs∧base=none
 | .box p _ _ _,vs,base=>∃ b off row e fr,v = .pointer (some ⟨b,off,none⟩)∧w.heap[b]?=some (.cells row e fr)∧vs=seg row off p.length∧base=some (b,off)
 | _,_,_=>False
theorem AY.uniq {w:World} {v:Value} {s:AA} {vs vs':List Value} {b b':Option (Nat × Nat)} (h:AY w v s vs b) (h':AY w v s vs' b'):vs=vs'∧b=b' :=by
 cases s <;>simp only[AY] at h h'
 ·exact ⟨h.1.uniq h'.1,h.2.trans h'.2.symm⟩
 ·obtain ⟨x,off,row,e,fr,rfl,h2,h3,h4⟩:=h
  obtain ⟨y,off',row',e',fr',k1,k2,k3,k4⟩:=h'
  obtain ⟨rfl,rfl⟩:x=y∧off=off' :=by simpa using k1
  rw[h2] at k2
  obtain ⟨rfl,-,-⟩:row=row'∧e=e'∧fr=fr' :=by simpa using k2
  exact ⟨h3.trans k3.symm,h4.trans k4.symm⟩
def pick (rv:List Value) (el:List Pm) (pl:AO):List Value:=(rv.drop (ix el.length pl.e pl.c)).take pl.n
def OX (w:World) (vk:Value) (root:AA) (pl:AO) (v:Value):Prop :=
 ∀ p cs d,root.root=some (p,cs,d)→CY d pl=false →
  ∃ vs0 base0 el rv base,AY w vk root vs0 base0∧A8 w p vs0 base0 pl.path=some (el,rv,base)∧AD pl.agg v (pick rv el pl)∧(rowAt p cs pl.path).isSome=true
def Ld (w:World) (vk:Value) (root:AA) (pl:AO) (v:Value):Prop :=
 ∀ p cs d,root.root=some (p,cs,d)→BF d pl=false →
  ∃ vs0 base0 el rv b o,AY w vk root vs0 base0∧A8 w p vs0 base0 pl.path=some (el,rv,some (b,o))∧v = .pointer (some ⟨b,o+ix el.length pl.e pl.c,none⟩)∧(rowAt p cs pl.path).isSome=true
def CJ (w:World) (cv:Nat→Value) (env:List (Nat × AA)):List (Nat × AO)→List Value→Prop
 | [],[]=>True
 | c::cs,v::vs=>Ld w (cv c.1) (AE env c.1) c.2 v∧CJ w cv env cs vs
 | _,_=>False
def AR (C:BU) (w:World) (Lt:Nat→Nat→Prop) (g:Nat) (cv:Nat→Value) (env:List (Nat × AA)) (k:Nat) (fp:Fp):AA→Prop
 | .dead=>fp=[]
 | .gone=>fp=[]
 | .und=>fp=[]∧cv k=undef
 | .val a p cs _ pin=>∃ vs,AD a (cv k) vs∧R w C.Fz Lt g p cs vs fp∧(pin≠0→C.pinv pin=vs)
 | .tup n=>fp=[]∧∃ vs:Array Value,cv k = .tuple vs∧vs.size=n∧n≤16∧∀ i,i<n→vs[i]?=some (cv (AF k i))
 | .box p cs _ pin=>R w C.Fz Lt g [.rf .own p] [.ref cs] [cv k] fp∧(pin≠0→∃ b off row e fr,cv k = .pointer (some ⟨b,off,none⟩)∧w.heap[b]?=some (.cells row e fr)∧seg row off p.length=C.pinv pin)
 | .view k' pl=>fp=[]∧OX w (cv k') (AE env k') pl (cv k)
 | .ptr k' pl=>fp=[]∧Ld w (cv k') (AE env k') pl (cv k)
 | .clo f caps=>fp=[]∧∃ vs:List Value,cv k = .func (.func f) #[] vs.toArray∧CJ w cv env caps vs
def AI:AA→Prop
 | .dead=>False
 | .val _ p _ [] _=>noOwns p=false
 | _=>True
structure BY (C:BU) (w:World) (a:Act) (σ:AS) (Lt:Nat→Nat→Prop) (cv:Nat→Value) (fp:Nat→Fp):Prop where
 tmps:∀ k,k<1000000→cv k=a.tmps.getD k undef
 slots:∀ k,AR C w Lt σ.g cv σ.env k (fp k) (AE σ.env k)
 nodup:∀ k,((fp k).map Fe.b).Nodup
 disj:∀ j k,j≠k→∀ x∈fp j,∀ y∈fp k,x.b≠y.b
 wok:∀ k,∀ f∈fp k,C.Ok f
 lt:∀ b j,Lt b j→b<w.heap.size
 looks:∀ j,∀ k∈(AE σ.env j).looks,k<1000000∧AI (AE σ.env k)
 fz:∀ b,C.Fz b→b<C.w0.heap.size∧∀ y∈C.mfp,y.b≠b
 ext:Ab C.w0 w C.Mut
 size:a.tmps.size≤1000000
 laid:Laid C.P C.E.laid C.w0 C.Fz
def St (C:BU) (w:World) (a:Act) (σ:AS):Prop:=a.defers=[]∧∃ Lt cv fp,BY C w a σ Lt cv fp
section
variable {C:BU} {w:World} {a:Act} {σ:AS} {Lt:Nat→Nat→Prop} {cv:Nat→Value} {fp:Nat→Fp} {g:Nat}
theorem AG.constT {v:Value} {t:T} (h:constT v=some t) (hl:∀ n cs,t ≠ .lst n cs):AG t v:=by
 unfold Desk.constT at h
 split at h <;>simp at h <;>subst h <;>simp_all [AG]
theorem AR.rootR {k:Nat} {s:AA} {p cs d f} (h:AR C w Lt g cv σ.env k f s) (hr:s.root=some (p,cs,d)) :
  ∃ vs0 base0 fI,AY w (cv k) s vs0 base0∧R w C.Fz Lt g p cs vs0 fI∧(∀ x∈fI,x∈f) ∧
   ((∃ ag pin,s = .val ag p cs d pin∧base0=none∧fI=f) ∨
    (∃ pin b off row e fr,s = .box p cs d pin∧base0=some (b,off)∧cv k = .pointer (some ⟨b,off,none⟩)∧w.heap[b]?=some (.cells row e fr)∧vs0=seg row off p.length∧off+p.length≤row.size ∧
      f=⟨b,off,off+p.length,0,off+p.length⟩::fI∧0<p.length∧¬ C.Fz b∧(∀ j,¬ Lt b j)∧(∀ j,off≤j→j<off+p.length→¬ (fr.1≤j∧j<fr.2)))):=by
 cases s with
 | val ag p' cs' d' pin =>
   simp only[AA.root,zS,zP] at hr
   obtain ⟨rfl,rfl,rfl⟩:=hr
   obtain ⟨vs,h1,h2,_⟩:=h
   exact ⟨vs,none,f,⟨h1,rfl⟩,h2,fun _ h=>h,.inl ⟨ag,pin,rfl,rfl,rfl⟩⟩
 | box p' cs' d' pin =>
   simp only[AA.root,zS,zP] at hr
   obtain ⟨rfl,rfl,rfl⟩:=hr
   obtain ⟨h1,_⟩:=h
   generalize hv:cv k=v at h1
   cases h1 with
   | @rfO b off row e fr _ _ vs' _ _ _ f1 f2 h0 hb hz hl hs hsz hf hi r =>
     cases r
     refine ⟨vs',some (b,off),f1,⟨b,off,row,e,fr,rfl,hb,hs.symm,rfl⟩,hi,by simp +contextual,.inr ⟨pin,b,off,row,e,fr,rfl,rfl,rfl,hb,hs.symm,hsz,by simp,h0,hz,hl,hf⟩⟩
 | _=>simp[AA.root] at hr
theorem R8 {m:Nat} {el rcs rv f p cs} {pl:AO} (h:R w C.Fz Lt g (rep m el) rcs rv f) (hp:BO el pl.c pl.n=some p)
  (hc:CG rcs (ix el.length pl.e pl.c) pl.n=some cs):∃ f',(∀ x∈f',x∈f)∧R w C.Fz Lt g p cs (pick rv el pl) f' :=h.sub hp hc
theorem AR.atPlace {k:Nat} {s:AA} {p cs d f} {pl:AO} {v:V} (h:AR C w Lt g cv σ.env k f s) (hn:(f.map Fe.b).Nodup)
  (hr:s.root=some (p,cs,d)) (ha:atPlace p cs pl=some v) :
  ∃ vs0 base0,AY w (cv k) s vs0 base0∧∀ el rv base,A8 w p vs0 base0 pl.path=some (el,rv,base) →
   ∃ f',(∀ x∈f',x∈f)∧R w C.Fz Lt g v.p v.cs (pick rv el pl) f' :=by
 obtain ⟨vs0,base0,fI,hrv,hR,hsub,hk⟩:=h.rootR hr
 refine ⟨vs0,base0,hrv,fun el rv base hcr => ?_⟩
 unfold Desk.atPlace at ha
 split at ha
 ·simp at ha
 rename_i el' rcs hrow
 split at ha
 ·simp at ha
 rename_i q hq
 split at ha
 ·simp at ha
 rename_i c hc
 simp only[zS] at ha
 subst ha
 have hnI:(fI.map Fe.b).Nodup:=by
  rcases hk with ⟨_,_,_,_,rfl⟩ | ⟨_,_,_,_,_,_,_,_,_,_,_,_,rfl,_⟩
  ·exact hn
  ·simp only[map_cons,nodup_cons] at hn;exact hn.2
 rcases Nat.eq_zero_or_pos pl.n with hz | hpos
 ·rw[hz] at hq hc
  simp only[BO,CG,zS] at hq hc
  subst hq hc
  exact ⟨[],by simp,by simp only[pick,hz,take_zero];exact .nil⟩
 ·have hne:rcs≠[]:=by
   rintro rfl
   have:=(Bh hc).2.2 hpos
   simp at this;omega
  rw[← BI p] at hR
  obtain ⟨m',rv',base',fpI,fpO,hcr',hRI,hperm,-,-,-⟩:=hR.focus (W:=fun _ _=>False) pl.path base0 hnI hrow hne
  rw[hcr] at hcr'
  obtain ⟨rfl,rfl,rfl⟩:el=el'∧rv=rv'∧base=base' :=by simpa using hcr'
  obtain ⟨f',hf',hR'⟩:=R8 hRI hq hc
  exact ⟨f',fun x hx=>hsub x (hperm.mem_iff.2 (by simp[hf' x hx])),hR'⟩
end
section
variable {C:BU} {w w':World} {a:Act} {σ:AS} {Lt Lt':Nat→Nat→Prop} {cv cv':Nat→Value} {fp fp':Nat→Fp} {g g':Nat} {Fz:Nat→Prop}
theorem O7 {W:Nat→Nat→Prop} (hx:Ab w w' W) (path:List (Nat × Nat)):∀ {P T V f m base r},R w Fz Lt g (rep m P) T V f →
  (∀ x∈f,∀ j,x.lo≤j→(j<x.hi∨j=x.lo)→¬ W x.b j)→(rowAt P T path).isSome=true→A8 w P V base path=some r→A8 w' P V base path=some r:=by
 induction path with
 | nil=>intro P T V f m base r _ _ _ h;exact h
 | cons ec path ih =>
   obtain ⟨e,c⟩:=ec
   intro P T V f m base r hR hW hTok h
   simp only[A8] at h ⊢
   cases hP:P[c]? with
   | none=>simp[hP] at h
   | some p =>
     cases p with
     | sl fl el1 =>
       cases fl with
       | own =>
         simp only[hP] at h ⊢
         have hc:c<P.length:=by
          rcases Nat.lt_or_ge c P.length with h' | h'
          ·exact h'
          ·simp[List.getElem?_eq_none h'] at hP
         cases hV:V[ix P.length e c]? with
         | none=>simp[hV] at h
         | some u =>
           generalize hj:ix P.length e c=j at *
           have hjV:j<V.length:=by
            rcases Nat.lt_or_ge j V.length with h' | h'
            ·exact h'
            ·simp[List.getElem?_eq_none h'] at hV
           have hlen:=hR.length_eq
           rw[A6] at hlen
           have hrep:(rep m P)[j]?=some (.sl .own el1):=by
            rw[MU (by omega),← hj,QX hc,hP]
           obtain ⟨t,v,f1,f0,f2,ht,hv,rfl,-,hm,-⟩:=hR.at hrep
           rw[hV] at hv
           obtain rfl:=Option.some.inj hv
           simp only[rowAt,hP,hj,ht] at hTok
           cases hm with
           | slH r'=>simp at hTok
           | slE hf r'=>obtain ⟨rfl,rfl⟩:=hf rfl;simp[hV] at h
           | @slO b off n cap row ety fr _ cs' vs' _ _ _ fp₁ fp₂ h0 hb hFz hLt hcap hs hsz hfree hi r' =>
             simp only[hV,hb] at h ⊢
             obtain ⟨row1,fr1,c1,c2,c3,-⟩:=hx.cells b row ety fr hb
             simp only[c1]
             have hseg:seg row1 off (n * el1.length)=seg row off (n * el1.length) :=
              Aw fun j' a' b'=>c3 j' (hW ⟨b,off,off+n * el1.length,off+n * el1.length,off+cap * el1.length⟩ (by simp) j' a' (.inl b'))
             rw[hseg,hs]
             rw[hs] at h
             exact ih hi (fun x hx'=>hW x (by simp[hx'])) hTok h
       | _=>simp[hP] at h
     | _=>simp[hP] at h
def AC (w w':World) (v:Value) (s:AA) (v':Value) (s':AA):Prop :=
 (∀ pl u,OX w v s pl u→OX w' v' s' pl u)∧(∀ pl u,Ld w v s pl u→Ld w' v' s' pl u)
theorem AC.same {W:Nat→Nat→Prop} {k:Nat} {s:AA} {f:Fp} (h:AR C w Lt g cv σ.env k f s) (hx:Ab w w' W)
  (hW:∀ x∈f,∀ j,x.lo≤j→(j<x.hi∨j=x.lo)→¬ W x.b j):AC w w' (cv k) s (cv k) s:=by
 have key:∀ p cs d vs0 base0 path r,s.root=some (p,cs,d)→(rowAt p cs path).isSome=true→AY w (cv k) s vs0 base0→A8 w p vs0 base0 path=some r →
   AY w' (cv k) s vs0 base0∧A8 w' p vs0 base0 path=some r:=by
  intro p cs d vs0 base0 path r hr hT hv hc
  obtain ⟨vs1,base1,fI,hrv,hR,hsub,hk⟩:=h.rootR hr
  obtain ⟨rfl,rfl⟩:=hv.uniq hrv
  refine ⟨?_,O7 hx path (m:=1) (by rw[BI];exact hR) (fun x hx'=>hW x (hsub x hx')) hT hc⟩
  rcases hk with ⟨ag,pin,rfl,rfl,rfl⟩ | ⟨pin,b,off,row,e,fr,rfl,rfl,hcv,hb,rfl,hsz,rfl,_⟩
  ·exact hv
  ·obtain ⟨row1,fr1,c1,c2,c3,-⟩:=hx.cells b row e fr hb
   refine ⟨b,off,row1,e,fr1,hcv,c1,?_,rfl⟩
   exact (Aw fun j a' b'=>c3 j (hW _ (mem_cons_self ..) j a' (.inl b'))).symm
 refine ⟨fun pl u hV p cs d hr hst => ?_,fun pl u hV p cs d hr hst => ?_⟩
 ·obtain ⟨vs0,base0,el,rv,base,h1,h2,h3,h4⟩:=hV p cs d hr hst
  obtain ⟨k1,k2⟩:=key p cs d vs0 base0 _ _ hr h4 h1 h2
  exact ⟨vs0,base0,el,rv,base,k1,k2,h3,h4⟩
 ·obtain ⟨vs0,base0,el,rv,b,o,h1,h2,h3,h4⟩:=hV p cs d hr hst
  obtain ⟨k1,k2⟩:=key p cs d vs0 base0 _ _ hr h4 h1 h2
  exact ⟨vs0,base0,el,rv,b,o,k1,k2,h3,h4⟩
theorem AC.noRoot {v v':Value} {s s':AA} (h:s'.root=none):AC w w' v s v' s' :=
 ⟨fun _ _ _ p cs d hr=>by rw[h] at hr;simp at hr,fun _ _ _ p cs d hr=>by rw[h] at hr;simp at hr⟩
theorem GW (pl:AO):CY BD pl=true:=by
 unfold CY;split <;>rfl
theorem Fv (pl:AO):BF BD pl=true:=by
 unfold BF;split <;>rfl
theorem AC.all {v v':Value} {s s':AA} (h:∀ p cs d,s'.root=some (p,cs,d)→d=BD):AC w w' v s v' s' :=
 ⟨fun pl _ _ p cs d hr hst=>by rw[h p cs d hr,GW] at hst;simp at hst,
  fun pl _ _ p cs d hr hst=>by rw[h p cs d hr,Fv] at hst;simp at hst⟩
theorem Cq {p:List Pm} {cs:List T} {path:List (Nat × Nat)} {f:List T→List T} (hp:path≠[]) (e c:Nat) (h:(rowAt p cs [(e,c)]).isSome=true):(rowAt p (Ah p cs path f) [(e,c)]).isSome=true:=by
 obtain ⟨⟨e1,c1⟩,path,rfl⟩:∃ x y,path=x::y:=by
  cases path with
  | nil=>exact absurd rfl hp
  | cons x y=>exact ⟨x,y,rfl⟩
 simp only[Ah]
 split
 ·rename_i el1 hc1
  split
  ·rename_i n cs1 hcs1
   simp only[rowAt] at h ⊢
   split at h
   ·rename_i el hc
    rw[List.getElem?_set]
    by_cases hi:ix p.length e1 c1=ix p.length e c
    ·rw[if_pos hi]
     have hlt:ix p.length e1 c1<cs.length:=by
      rcases Nat.lt_or_ge (ix p.length e1 c1) cs.length with h' | h'
      ·exact h'
      ·simp[List.getElem?_eq_none h'] at hcs1
     rw[if_pos hlt];rfl
    ·rw[if_neg hi];exact h
   ·simp at h
  ·exact h
 ·exact h
theorem AC.turned {v:Value} {s:AA} {p cs d p' cs' q m n} (hs:s.root=some (p,cs,d)) (hlen:p'.length=p.length)
  (hq:q≠[]→∀ vs0 base0,AY w v s vs0 base0→AY w' v (s.withRoot p' cs' ((q,m,n)::d)) vs0 base0)
  (hb:∀ vs0 base0,AY w v s vs0 base0→∃ vs1,AY w' v (s.withRoot p' cs' ((q,m,n)::d)) vs1 base0)
  (hr0:q≠[]→p'=p∧(∃ W,Ab w w' W)∧∀ e c,(rowAt p cs [(e,c)]).isSome=true→(rowAt p cs' [(e,c)]).isSome=true) :
  AC w w' v s v (s.withRoot p' cs' ((q,m,n)::d)):=by
 have hroot:(s.withRoot p' cs' ((q,m,n)::d)).root=some (p',cs',(q,m,n)::d):=by
  cases s <;>simp_all [AA.root,AA.withRoot]
 refine ⟨fun pl u hV P CS D hr hst => ?_,fun pl u hV P CS D hr hst => ?_⟩
 ·rw[hroot] at hr
  obtain ⟨rfl,rfl,rfl⟩:p'=P∧cs'=CS∧((q,m,n)::d)=D:=by simpa using hr
  unfold CY at hst
  split at hst
  ·rename_i hpath
   cases q with
   | nil=>simp[Cj] at hst
   | cons x q =>
     simp only[Cj] at hst
     have hst0:CY d pl=false:=by unfold CY;rw[hpath];exact hst
     obtain ⟨vs0,base0,el,rv,base,h1,h2,h3⟩:=hV p cs d hs hst0
     rw[hpath] at h2 ⊢
     simp only[A8,zS,zP] at h2
     obtain ⟨rfl,rfl,rfl⟩:=h2
     exact ⟨vs0,base0,p',vs0,base0,hq (by simp) _ _ h1,rfl,by simpa [pick,hlen] using h3.1,rfl⟩
  ·simp at hst
 ·rw[hroot] at hr
  obtain ⟨rfl,rfl,rfl⟩:p'=P∧cs'=CS∧((q,m,n)::d)=D:=by simpa using hr
  unfold BF at hst
  split at hst
  ·rename_i hpath
   have hst2:Bq d=false:=by
    cases q with
    | nil=>simp only[Bq,Bool.or_eq_false_iff] at hst;exact hst.2
    | cons=>exact hst
   have hst0:BF d pl=false:=by unfold BF;rw[hpath];exact hst2
   obtain ⟨vs0,base0,el,rv,b,o,h1,h2,h3⟩:=hV p cs d hs hst0
   rw[hpath] at h2 ⊢
   simp only[A8,zS,zP] at h2
   obtain ⟨rfl,rfl,rfl⟩:=h2
   obtain ⟨vs1,h4⟩:=hb _ _ h1
   exact ⟨vs1,_,p',vs1,b,o,h4,rfl,by rw[hlen];exact h3.1,rfl⟩
  ·rename_i x hpath
   cases q with
   | nil=>simp[Cj] at hst
   | cons y q =>
     simp only[Cj] at hst
     obtain ⟨rfl,⟨W,hx⟩,hT⟩:=hr0 (by simp)
     have hst0:BF d pl=false:=by unfold BF;rw[hpath];exact hst
     obtain ⟨vs0,base0,el,rv,b,o,h1,h2,h3⟩:=hV p' cs d hs hst0
     rw[hpath] at h2 ⊢
     have h1' :=hq (by simp) vs0 base0 h1
     obtain ⟨e,c⟩:=x
     simp only[A8] at h2
     split at h2
     ·rename_i el' hc
      split at h2
      ·rename_i b' off n' cap' hv
       split at h2
       ·rename_i row ety fr hb'
        simp only[zS,zP] at h2
        obtain ⟨rfl,rfl,rfl,rfl⟩:=h2
        obtain ⟨row',fr',c1,c2,-⟩:=hx.cells _ _ _ _ hb'
        rw[hpath] at h3
        refine ⟨vs0,base0,el',seg row' off (n' * el'.length),b',off,h1',?_,h3.1,hT e c h3.2⟩
        simp only[A8,hc,hv,c1]
       ·simp at h2
      ·simp at h2
     ·simp at h2
  ·simp at hst
theorem AR.noLt {env:List (Nat × AA)} {k:Nat} {s:AA} {f:Fp} (h:AR C w Lt g cv env k f s) {x:Fe} (hx:x∈f):∀ j,x.l≤j→¬ Lt x.b j:=by
 cases s with
 | val=>obtain ⟨vs,-,h2,-⟩:=h;exact h2.noLtAbove x hx
 | box=>exact h.1.noLtAbove x hx
 | dead=>simp only[AR] at h;subst h;simp at hx
 | gone=>simp only[AR] at h;subst h;simp at hx
 | _=>obtain ⟨rfl,-⟩:=h;simp at hx
theorem AR.inHeap {env:List (Nat × AA)} {k:Nat} {s:AA} {f:Fp} (h:AR C w Lt g cv env k f s) {x:Fe} (hx:x∈f) :
  x.b<w.heap.size∧x.lo≤x.hi∧x.hi≤x.t∧¬ C.Fz x.b:=by
 cases s with
 | val=>obtain ⟨vs,-,h2,-⟩:=h;exact h2.lt x hx
 | box=>exact h.1.lt x hx
 | dead=>simp only[AR] at h;subst h;simp at hx
 | gone=>simp only[AR] at h;subst h;simp at hx
 | _=>obtain ⟨rfl,-⟩:=h;simp at hx
theorem AR.mono {W:Nat→Nat→Prop} {env env':List (Nat × AA)} {k:Nat} {s:AA} {f:Fp} (h:AR C w Lt g cv env k f s) (hx:Ab w w' W)
  (hcv:cv' k=cv k) (hvs:∀ n,s = .tup n→n≤16→∀ i,i<n→cv' (AF k i)=cv (AF k i))
  (hR:∀ ps ts vs,R w C.Fz Lt g ps ts vs f→R w' C.Fz Lt' g' ps ts vs f)
  (hpin:∀ p cs d pin,s = .box p cs d pin→∀ x∈f,∀ j,x.lo≤j→(j<x.hi∨j=x.lo)→¬ W x.b j)
  (hl:∀ k'∈s.looks,AC w w' (cv k') (AE env k') (cv' k') (AE env' k')):AR C w' Lt' g' cv' env' k f s:=by
 cases s with
 | dead=>exact h
 | gone=>exact h
 | und=>exact ⟨h.1,hcv.trans h.2⟩
 | val ag p cs d pin =>
   obtain ⟨vs,h1,h2,h3⟩:=h
   exact ⟨vs,by rw[hcv];exact h1,hR _ _ _ h2,h3⟩
 | tup n =>
   obtain ⟨h1,vs,h2,h3,h16,h4⟩:=h
   exact ⟨h1,vs,hcv.trans h2,h3,h16,fun i hi=>by rw[hvs n rfl h16 i hi];exact h4 i hi⟩
 | box p cs d pin =>
   obtain ⟨h1,h2⟩:=h
   refine ⟨by rw[hcv];exact hR _ _ _ h1,fun hp => ?_⟩
   obtain ⟨b,off,row,e,fr,c1,c2,c3⟩:=h2 hp
   obtain ⟨row1,fr1,d1,d2,d3,-⟩:=hx.cells b row e fr c2
   refine ⟨b,off,row1,e,fr1,hcv.trans c1,d1,?_⟩
   rw[← c3]
   refine Aw fun j a' b'=>d3 j ?_
   generalize hv:cv k=v at h1
   cases h1 with
   | @rfO b1 off1 row1' e1 fr1 _ _ vs' _ _ _ f1 f2 h0 hb hz hl hs hsz hf hi r =>
     rw[c1] at hv
     obtain ⟨rfl,rfl⟩:b=b1∧off=off1:=by simpa using hv
     exact hpin p cs d pin rfl _ (mem_cons_self ..) j a' (.inl b')
 | view k' pl=>exact ⟨h.1,by rw[hcv];exact (hl k' (by simp[AA.looks])).1 _ _ h.2⟩
 | ptr k' pl=>exact ⟨h.1,by rw[hcv];exact (hl k' (by simp[AA.looks])).2 _ _ h.2⟩
 | clo fn caps =>
   obtain ⟨h1,vs,h2,h3⟩:=h
   refine ⟨h1,vs,hcv.trans h2,?_⟩
   have:∀ (caps:List (Nat × AO)) (vs:List Value),(∀ c∈caps,AC w w' (cv c.1) (AE env c.1) (cv' c.1) (AE env' c.1)) →
     CJ w cv env caps vs→CJ w' cv' env' caps vs:=by
    intro caps
    induction caps with
    | nil=>intro vs _ h;cases vs <;>simp_all [CJ]
    | cons c caps ih =>
      intro vs hk h
      cases vs with
      | nil=>simp[CJ] at h
      | cons v vs=>exact ⟨(hk c (by simp)).2 _ _ h.1,ih vs (fun c' hc'=>hk c' (by simp[hc'])) h.2⟩
   exact this caps vs (fun c hc=>hl c.1 (by simp[AA.looks];exact ⟨c.2,hc⟩)) h3
end
theorem BM (j k:Nat) (s:AA) (r:List (Nat × AA)):AE ((j,s)::r) k=if j=k then s else AE r k:=rfl
def KT (ups:List (Nat × AA)) (k:Nat):Option AA :=
 match ups with
 | []=>none
 | (j,s)::r=>match KT r k with
   | some s'=>some s'
   | none=>if j=k then some s else none
theorem HG (ups env:List (Nat × AA)) (k:Nat):AE (Ae ups env) k=(KT ups k).getD (AE env k):=by
 induction ups generalizing env with
 | nil=>rfl
 | cons u us ih =>
   obtain ⟨j,s⟩:=u
   simp only[Ae,KT]
   rw[ih]
   cases KT us k with
   | some s'=>rfl
   | none =>
     simp only[Option.getD_none,BM]
     split <;>rfl
theorem Ee {ups:List (Nat × AA)} {k:Nat} (h:k ∉ ups.map (·.1)):KT ups k=none:=by
 induction ups with
 | nil=>rfl
 | cons u us ih =>
   obtain ⟨j,s⟩:=u
   simp only[map_cons,mem_cons,not_or] at h
   simp only[KT,ih h.2]
   rw[if_neg (fun e=>h.1 e.symm)]
section
variable {C:BU} {w w':World} {a a':Act} {σ:AS} {Lt Lt':Nat→Nat→Prop} {cv cv':Nat→Value} {fp fp':Nat→Fp} {g':Nat} {env':List (Nat × AA)}
theorem BY.step {W:Nat→Nat→Prop} (h:BY C w a σ Lt cv fp) (hx:Ab w w' W)
  (hW:∀ b j,b<w.heap.size→W b j→C.w0.heap.size≤b∨C.Mut b j)
  (hg:(g'=σ.g∧(∀ b j,Lt b j→Lt' b j)∧(∀ b j,Lt b j→¬ W b j))∨(σ.g<g'∧Lt'=fun _ _=>False))
  (htm:∀ k,k<1000000→cv' k=a'.tmps.getD k undef) (hsz:a'.tmps.size≤1000000)
  (hk:∀ k,(AE env' k=AE σ.env k∧fp' k=fp k∧cv' k=cv k∧(∀ n,AE σ.env k = .tup n→n≤16→∀ i,i<n→cv' (AF k i)=cv (AF k i)) ∧
     (∀ x∈fp k,(∀ j,x.lo≤j→(j<x.hi∨j=x.lo)→¬ W x.b j)∧∀ j,x.l≤j→¬ Lt' x.b j) ∧
     (∀ k'∈(AE σ.env k).looks,AC w w' (cv k') (AE σ.env k') (cv' k') (AE env' k')∧AI (AE env' k'))) ∨
    (AR C w' Lt' g' cv' env' k (fp' k) (AE env' k)∧((fp' k).map Fe.b).Nodup ∧
      (∀ f∈fp' k,C.Ok f)∧(∀ k'∈(AE env' k).looks,k'<1000000∧AI (AE env' k'))))
  (hd:∀ j k,j≠k→∀ x∈fp' j,∀ y∈fp' k,x.b≠y.b)
  (hlt:∀ b j,Lt' b j→b<w'.heap.size):BY C w' a' ⟨env',g'⟩ Lt' cv' fp' :=by
 have wFz:∀ b j,C.Fz b→¬ W b j:=by
  intro b j hb hWb
  obtain ⟨hlt',hm⟩:=h.fz b hb
  have:=h.ext.size
  rcases hW b j (by omega) hWb with h1 | h1
  ·omega
  ·obtain ⟨y,hy,e,-⟩:=h1
   exact hm y hy e
 refine ⟨htm,fun k => ?_,fun k => ?_,hd,fun k => ?_,hlt,fun j k hkl => ?_,h.fz,?_,hsz,h.laid⟩
 ·rcases hk k with ⟨h1,h2,h3,h4,h5,h6⟩ | ⟨h1,-⟩
  ·simp only[h1]
   rw[h2]
   refine (h.slots k).mono (W:=W) hx h3 h4 (fun ps ts vs hR => ?_) (fun _ _ _ _ _ x hx'=>(h5 x hx').1) (fun k' hk'=>(h6 k' hk').1)
   rcases hg with ⟨rfl,hg1,hg2⟩ | ⟨hg1,rfl⟩
   ·exact hR.mono hx (fun _ h=>h) hg1 wFz hg2 (fun x hx'=>⟨(h5 x hx').1,(hR.lt x hx').2.2.2,(h5 x hx').2⟩)
   ·exact (hR.bump hg1).mono hx (fun _ h=>h) (fun _ _ h=>h) wFz (by simp) (fun x hx'=>⟨(h5 x hx').1,(hR.lt x hx').2.2.2,by simp⟩)
  ·exact h1
 ·rcases hk k with ⟨h1,h2,-⟩ | ⟨-,h1,-⟩
  ·rw[h2];exact h.nodup k
  ·exact h1
 ·rcases hk k with ⟨h1,h2,-⟩ | ⟨-,-,h1,-⟩
  ·rw[h2];exact h.wok k
  ·exact h1
 ·simp only at hkl
  rcases hk j with ⟨h1,-,-,-,-,h6⟩ | ⟨-,-,-,h1⟩
  ·rw[h1] at hkl
   exact ⟨(h.looks j k hkl).1,(h6 k hkl).2⟩
  ·exact h1 k hkl
 ·exact h.ext.trans hx (fun _ _ h=>h) (fun b j hb hWb=>by
   have hs:=h.ext.size
   rcases hW b j (by omega) hWb with h1 | h1
   ·omega
   ·exact h1)
theorem Ay (h:BY C w a σ Lt cv fp) {t:Nat} (ht:t<1000000):a.eval (.tmp t)=cv t:=(h.tmps t ht).symm
theorem Aq {s:AA} (h:A0 s=true):¬ AI s:=by
 unfold A0 at h
 split at h
 ·simp[AI]
 ·simp[AI,h]
 ·simp at h
theorem EX (a:Act) (d k:Nat) (v:Value) (hd:d<a.tmps.size):(a.put (some d) v).tmps.getD k undef=if k=d then v else a.tmps.getD k undef:=by
 simp only[Act.put,Array.getD_eq_getD_getElem?]
 by_cases h:k=d
 ·subst h;simp[hd]
 ·rw[if_neg h,Array.getElem?_setIfInBounds_ne (fun e=>h e.symm)]
theorem EW (a:Act) (d:Option Nat) (v:Value):(a.put d v).tmps.size=a.tmps.size:=by
 cases d <;>simp[Act.put]
theorem BY.put1 (h:BY C w a σ Lt cv fp) (hx:Ab w w' (fun _ _=>False)) {d:Nat} {v:Value} {s:AA} (hd:d<a.tmps.size)
  (hs:AR C w' Lt σ.g (fun k=>if k=d then v else cv k) ((d,s)::σ.env) d [] s)
  (hf:s.root=none∨A0 (AE σ.env d)=true) (hl:∀ k∈s.looks,k<1000000∧k≠d∧AI (AE σ.env k))
  (hso:AI s∨A0 (AE σ.env d)=true) :
  ∃ cv' fp',BY C w' (a.put (some d) v) ⟨(d,s)::σ.env,σ.g⟩ Lt cv' fp' :=by
 have hds:=h.size
 refine ⟨fun k=>if k=d then v else cv k,fun k=>if k=d then [] else fp k,h.step (W:=fun _ _=>False) hx (by simp) (.inl ⟨rfl,fun _ _ h=>h,by simp⟩) (fun k hk => ?_) (by rw[EW];exact h.size) (fun k => ?_) ?_ ?_⟩
 ·rw[EX a d k v hd,← h.tmps k hk]
 ·by_cases hkd:k=d
  ·subst hkd
   right
   simp only[BM,if_true]
   refine ⟨hs,by simp,by simp,fun k' hk' => ?_⟩
   obtain ⟨h1,h2,h3⟩:=hl k' hk'
   exact ⟨h1,by rw[if_neg (fun e=>h2 e.symm)];exact h3⟩
  ·left
   simp only[BM,if_neg hkd,if_neg (fun e=>hkd e.symm:¬ d=k)]
   refine ⟨trivial,trivial,trivial,fun n hn _ i _ => ?_,fun x hx'=>⟨by simp,(h.slots k).noLt hx'⟩,fun k' hk' => ?_⟩
   ·rw[if_neg];unfold AF;omega
   ·obtain ⟨h1,h2⟩:=h.looks k k' hk'
    by_cases hk'd:k'=d
    ·subst hk'd
     simp only[if_true]
     rcases hf with hf | hf
     ·refine ⟨AC.noRoot hf,?_⟩
      rcases hso with h | h
      ·exact h
      ·exact absurd h2 (Aq h)
     ·exact absurd h2 (Aq hf)
    ·simp only[if_neg hk'd,if_neg (fun e=>hk'd e.symm:¬ d=k')]
     exact ⟨AC.same (h.slots k') hx (by simp),h2⟩
 ·intro j k hjk x hx' y hy'
  by_cases hj:j=d
  ·simp[hj] at hx'
  ·by_cases hk:k=d
   ·simp[hk] at hy'
   ·rw[if_neg hj] at hx'
    rw[if_neg hk] at hy'
    exact h.disj j k hjk x hx' y hy'
 ·intro b j hb
  have:=h.lt b j hb
  have:=hx.size
  omega
end
section
variable {P:Program} {w:World}
theorem ND (b off n:Nat):(⟨b,off,none⟩:Addr).add n=⟨b,off+n,none⟩:=Addr.add_lit b off n
theorem MJ {b off:Nat} {row:Array Value} {e:TypeId} {fr:Nat × Nat} (hb:w.heap[b]?=some (.cells row e fr)):w.cell? ⟨b,off,none⟩=row[off]? :=by
 simp[World.cell?,hb]
theorem PB {b off:Nat} {row:Array Value} {e:TypeId} {fr:Nat × Nat} (hb:w.heap[b]?=some (.cells row e fr)):w.frozen? ⟨b,off,none⟩=(decide (fr.1≤off)&&decide (off<fr.2)):=by
 obtain ⟨lo,hi⟩:=fr
 simp[World.frozen?,hb]
theorem KG {row:Array Value} {off n:Nat} (h:off<row.size):seg row off (n+1)=row[off]::seg row (off+1) n:=by
 simp only[seg]
 rw[drop_eq_getElem_cons (by simpa using h),take_succ_cons]
 simp
theorem HW {b off:Nat} {row:Array Value} {e:TypeId} {fr:Nat × Nat} (hb:w.heap[b]?=some (.cells row e fr)):∀ n i acc,off+i+n≤row.size →
  (loadCellsFrom ⟨b,off,none⟩ i n acc).run P w = .ok (acc++(seg row (off+i) n).toArray) w:=by
 intro n
 induction n with
 | zero=>intro i acc _;simp[loadCellsFrom,seg]
 | succ n ih =>
   intro i acc h
   have hlt:off+i<row.size:=by omega
   simp only[loadCellsFrom,Sem.run_bind,run_load,ND,MJ hb,Array.getElem?_eq_getElem hlt,Result.andThen_ok]
   rw[ih (i+1) _ (by omega),KG hlt]
   simp[Nat.add_assoc]
theorem EE {b off n:Nat} {row:Array Value} {e:TypeId} {fr:Nat × Nat} (hb:w.heap[b]?=some (.cells row e fr)) (h:off+n≤row.size) :
  (loadCells ⟨b,off,none⟩ n).run P w = .ok (seg row off n).toArray w:=by
 unfold loadCells
 rw[HW hb n 0 #[] (by omega)]
 simp
def H9 (w:World) (b:Nat):Nat→List Value→World
 | _,[]=>w
 | off,v::vs=>H9 (w.setCell ⟨b,off,none⟩ v) b (off+1) vs
theorem Hf {b off:Nat} {row:Array Value} {e:TypeId} {fr:Nat × Nat} (hb:w.heap[b]?=some (.cells row e fr)) (v:Value) :
  (w.setCell ⟨b,off,none⟩ v).heap[b]?=some (.cells (row.setIfInBounds off v) e fr):=by
 simp only[World.setCell,Array.getElem?_modify]
 rw[if_pos trivial,hb];rfl
theorem F9:∀ (vs:List Value) (w:World) (b off:Nat) (row:Array Value) (e:TypeId) (fr:Nat × Nat),w.heap[b]?=some (.cells row e fr)→off+vs.length≤row.size →
  ∃ row',(H9 w b off vs).heap[b]?=some (.cells row' e fr)∧row'.size=row.size∧seg row' off vs.length=vs∧∀ j,¬ (off≤j∧j<off+vs.length)→row'[j]?=row[j]?
 | [],w,b,off,row,e,fr,hb,_=>⟨row,hb,rfl,by simp[seg],fun _ _=>rfl⟩
 | v::vs,w,b,off,row,e,fr,hb,h=>by
   simp only[length_cons] at h ⊢
   obtain ⟨row',h1,h2,h3,h4⟩:=F9 vs _ b (off+1) _ e fr (Hf (off:=off) hb v) (by simp;omega)
   refine ⟨row',h1,by simpa using h2,?_,fun j hj => ?_⟩
   ·have hlt:off<row'.size:=by simp at h2;omega
    rw[KG hlt,h3]
    have h5:=h4 off (by omega)
    have:row'[off]?=some v:=by
     rw[h5]
     have:off<row.size:=by omega
     simp[this]
    rw[Array.getElem?_eq_getElem hlt] at this
    simp only[zS] at this
    rw[this]
   ·rw[h4 j (by omega),Array.getElem?_setIfInBounds_ne (by omega)]
theorem J7:∀ (vs:List Value) (w:World) (b off:Nat),Ab w (H9 w b off vs) (fun b' j=>b'=b∧off≤j∧j<off+vs.length)
 | [],w,b,off=>Ab.refl w _
 | v::vs,w,b,off=>by
   have h1:=Ab.setCell w ⟨b,off,none⟩ v
   have h2:=J7 vs (w.setCell ⟨b,off,none⟩ v) b (off+1)
   refine h1.trans h2 (fun b' j hj => ?_) (fun b' j _ hj => ?_)
   ·simp only[length_cons] at hj ⊢;exact ⟨hj.1,by omega,by omega⟩
   ·simp only[length_cons];exact ⟨hj.1,by omega,by omega⟩
theorem Do:∀ (vs:List Value) (w:World) (b off i:Nat) (row:Array Value) (e:TypeId) (fr:Nat × Nat),w.heap[b]?=some (.cells row e fr)→off+i+vs.length≤row.size →
  (∀ j,off+i≤j→j<off+i+vs.length→¬ (fr.1≤j∧j<fr.2))→(∀ v∈vs,v.oneCell'=true) →
  (storeCells ⟨b,off,none⟩ vs i).run P w = .ok () (H9 w b (off+i) vs)
 | [],w,b,off,i,row,e,fr,_,_,_,_=>by simp[storeCells,H9]
 | v::vs,w,b,off,i,row,e,fr,hb,h,hf,hv=>by
   simp only[length_cons] at h hf
   have hlt:off+i<row.size:=by omega
   have hfr:w.frozen? ⟨b,off+i,none⟩=false:=by
    rw[PB hb]
    have:=hf (off+i) (Nat.le_refl _) (by omega)
    simp only[Bool.and_eq_false_iff,decide_eq_false_iff_not]
    omega
   simp only[storeCells,Sem.run_bind,ND]
   rw[run_store P w _ v _ (hv v (by simp)),MJ hb,Array.getElem?_eq_getElem hlt]
   simp only[hfr]
   have:=Do vs (w.setCell ⟨b,off+i,none⟩ v) b off (i+1) _ e fr (Hf (off:=off+i) hb v) (by simp;omega) (fun j a c=>hf j (by omega) (by omega)) (fun u hu=>hv u (by simp[hu]))
   simpa [H9,Nat.add_assoc] using this
end
def DM:TypeDesc→Bool
 | .struct _=>true
 | .array _ _=>true
 | _=>false
def FS (E:AX) (d:TD) (u:TypeDesc):Prop:=match d.kd with
 | .int k=>u = .int k
 | .flt k=>u = .float k
 | .bool=>u = .bool
 | .str=>u = .string
 | .slc e=>u = .slice e∧∃ de,E.ty e=some de∧d.own=[.sl .own de.own]
 | .ptr e=>u = .pointer e
 | .st fs=>∃ fields:Array Field,u = .struct fields∧fields.toList.map (fun f=>(f.offset,f.type))=fs
 | .other=>True
structure GN (P:Program) (E:AX) (t:Nat) (d:TD):Prop where
 info:∃ i z,P.info? t=some i∧i.size=d.sz∧i.bytes=d.bytes∧i.zero=some z∧Ck z.cells.toList=some d.zero ∧
  (if d.agg then ∃ cs,z = .agg cs else z.cells = #[z])
 fit:FM d.own d.zero=true
 len:d.own.length=d.sz
 pos:0<d.sz
 und:∃ u,P.underlying t=some u∧FS E d u∧DM u=d.agg
 flds:∀ fields:Array Field,P.underlying t=some (.struct fields)→∀ f∈fields.toList,(P.info? f.type).isSome=true
def Bw (P:Program) (E:AX):Prop:=∀ t d,E.ty t=some d→GN P E t d
def AT:Operand→Prop
 | .tmp t=>t<1000000
 | _=>True
theorem A2 {w:World} {Fz:Nat→Prop} {Lt:Nat→Nat→Prop} {g:Nat}:∀ {ps:List Pm} {ts:List T} {vs:List Value},Ck vs=some ts→FM ps ts=true→R w Fz Lt g ps ts vs []
 | ps,ts,[],h,hf=>by
   simp only[Ck,zS] at h
   subst h
   cases ps with
   | nil=>exact .nil
   | cons p ps=>cases p <;>(try (rename_i fl el;cases fl)) <;>simp[FM] at hf
 | ps,ts,v::vs,h,hf=>by
   simp only[Ck] at h
   cases hc:constT v with
   | none=>simp[hc] at h
   | some t =>
     cases hr:Ck vs with
     | none=>simp[hc,hr] at h
     | some ts' =>
       simp only[hc,hr,zS] at h
       subst h
       cases ps with
       | nil=>simp[FM] at hf
       | cons p ps =>
         cases p with
         | leaf =>
           simp only[FM,zB] at hf
           refine .leaf (AG.constT hc ?_) (A2 hr hf.2)
           rintro n cs rfl
           simp at hf
         | sl fl el =>
           cases fl with
           | own =>
             unfold FM at hf
             split at hf <;>simp_all
             rename_i heq _
             obtain ⟨rfl,rfl⟩:=heq
             unfold constT at hc
             split at hc <;>simp at hc
             exact .slE (by simp) (A2 hr hf)
           | _=>simp[FM] at hf
         | _=>simp[FM] at hf
section
variable {C:BU} {w w':World} {a a':Act} {σ:AS} {Lt Lt':Nat→Nat→Prop} {cv cv':Nat→Value} {fp fp':Nat→Fp}
theorem Bu {Fz:Nat→Prop} {E:AX} {ty:Nat} {c:Value} {v:V} {g:Nat} (h:JZ E ty c=some v):∃ vs,AD v.agg c vs∧R w Fz Lt g v.p v.cs vs []:=by
 unfold JZ at h
 split at h
 ·rename_i vs
  split at h
  ·simp at h
  split at h
  ·simp at h
  rename_i ts hts
  split at h
  ·rename_i hf
   simp only[zS] at h
   subst h
   exact ⟨vs.toList,by simp[AD],A2 hts hf⟩
  ·simp at h
 ·rename_i hna
  split at h
  ·simp at h
  ·rename_i n cs hc
   split at h
   ·split at h
    ·simp only[zS] at h
     subst h
     refine ⟨[c],by simp[AD],?_⟩
     unfold constT at hc
     split at hc <;>simp at hc
     obtain ⟨rfl,rfl⟩:=hc
     exact .slE (by simp) .nil
    ·simp at h
   ·simp at h
  ·rename_i t hnl hc
   simp only[zS] at h
   subst h
   exact ⟨[c],by simp[AD],.leaf (AG.constT hc fun n cs e=>hnl n cs e) .nil⟩
theorem AJ (env:List (Nat × AA)) (t:Nat):AB env (.tmp t)=match AE env t with
  | .view k pl => .slot t (.view k pl) (AE env k)
  | .ptr k pl => .slot t (.ptr k pl) (AE env k)
  | .clo f caps => .clo t f (caps.map fun c=>(c.1,c.2,AE env c.1))
  | .tup n => .tup t ((G6 n).map fun i=>AE env (AF t i))
  | s => .slot t s .dead:=by
 first | (simp only[AB];done) | (simp only[AB];cases AE env t <;>rfl)
theorem Ag (h:BY C w a σ Lt cv fp) {x:Operand} {ty:Nat} {v:V} (hx:AT x) (hr:AV C.E ty (AB σ.env x)=some v) :
  ∃ vs f,AD v.agg (a.eval x) vs∧R w C.Fz Lt σ.g v.p v.cs vs f∧(f=[]∨∃ k,∀ y∈f,y∈fp k):=by
 cases x with
 | const c =>
   simp only[AB,AV] at hr
   obtain ⟨vs,h1,h2⟩:=Bu (w:=w) (Lt:=Lt) (Fz:=C.Fz) (g:=σ.g) hr
   exact ⟨vs,[],h1,h2,.inl rfl⟩
 | global g=>simp[AB,AV] at hr
 | func f =>
   simp only[AB,AV,zS] at hr
   subst hr
   exact ⟨[_],[],by simp[AD,Act.eval],.fnv (caps:=[]) .nil .nil,.inl rfl⟩
 | tmp t =>
   rw[Ay h hx]
   rw[AJ] at hr
   have hs:=h.slots t
   cases hg:AE σ.env t with
   | val ag p cs d pin =>
     rw[hg] at hs
     simp only[hg,AV,zS] at hr
     subst hr
     obtain ⟨vs,h1,h2,-⟩:=hs
     exact ⟨vs,fp t,h1,h2,.inr ⟨t,fun _ h=>h⟩⟩
   | view k pl =>
     rw[hg] at hs
     simp only[hg,AV] at hr
     cases hroot:(AE σ.env k).root with
     | none=>simp[hroot] at hr
     | some pcd =>
       obtain ⟨p,cs,d⟩:=pcd
       simp only[hroot] at hr
       split at hr
       ·simp at hr
       ·rename_i hst
        obtain ⟨vs0,base0,el,rv,base,k1,k2,k3⟩:=hs.2 p cs d hroot (by simpa using hst)
        obtain ⟨vs1,base1,j1,j2⟩:=(h.slots k).atPlace (h.nodup k) hroot hr
        obtain ⟨rfl,rfl⟩:=k1.uniq j1
        obtain ⟨f',hf',hR⟩:=j2 el rv base k2
        refine ⟨_,f',?_,hR,.inr ⟨k,hf'⟩⟩
        have:v.agg=pl.agg:=by
         unfold Desk.atPlace at hr
         split at hr <;>try simp at hr
         split at hr <;>try simp at hr
         split at hr <;>simp at hr
         rw[← hr]
        rw[this];exact k3.1
   | _=>simp[hg,AV] at hr
theorem Ai (h:BY C w a σ Lt cv fp) {x:Operand} {ty:Nat} {t:T} (hx:AT x) (hr:As C.E ty (AB σ.env x)=some t) :
  AG t (a.eval x):=by
 unfold As at hr
 split at hr <;>simp at hr
 rename_i t' hv
 subst hr
 obtain ⟨vs,f,h1,h2,-⟩:=Ag h hx hv
 simp only[AD,Bool.false_eq_true,if_false] at h1
 subst h1
 cases h2 with
 | leaf h _=>exact h
theorem FC (h:BY C w a σ Lt cv fp) {x:Operand} {k:Nat} {pl:AO} {root:AA} (hx:AT x) (hr:A1 (AB σ.env x)=some (k,pl,root)) :
  root=AE σ.env k∧k<1000000∧∃ p cs d,root.root=some (p,cs,d)∧((∃ ag p' c' d' pin,root = .val ag p' c' d' pin)→AI root) ∧
   ∃ vs0 base0 el rv b o,AY w (cv k) root vs0 base0∧A8 w p vs0 base0 pl.path=some (el,rv,some (b,o)) ∧
    a.eval x = .pointer (some ⟨b,o+ix el.length pl.e pl.c,none⟩)∧(rowAt p cs pl.path).isSome=true:=by
 cases x with
 | const c=>simp[AB,A1] at hr
 | global g=>simp[AB,A1] at hr
 | func f=>simp[AB,A1] at hr
 | tmp t =>
   rw[Ay h hx]
   rw[AJ] at hr
   have hs:=h.slots t
   cases hg:AE σ.env t with
   | ptr k' pl' =>
     rw[hg] at hs
     simp only[hg,A1] at hr
     cases hroot:(AE σ.env k').root with
     | none=>simp[hroot] at hr
     | some pcd =>
       obtain ⟨p,cs,d⟩:=pcd
       simp only[hroot] at hr
       split at hr
       ·simp at hr
       ·rename_i hst
        simp only[zS,zP] at hr
        obtain ⟨rfl,rfl,rfl⟩:=hr
        have hl:=h.looks t k' (by rw[hg];simp[AA.looks])
        exact ⟨rfl,hl.1,p,cs,d,hroot,fun _=>hl.2,hs.2 p cs d hroot (by simpa using hst)⟩
   | box p cs d pin =>
     simp only[hg,A1,zS,zP] at hr
     obtain ⟨rfl,rfl,rfl⟩:=hr
     rw[hg] at hs
     refine ⟨hg.symm,hx,p,cs,d,rfl,by simp,?_⟩
     obtain ⟨vs0,base0,fI,hrv,-,-,hk⟩:=hs.rootR (p:=p) (cs:=cs) (d:=d) rfl
     rcases hk with ⟨_,_,h1,_⟩ | ⟨pin',b,off,row,e,fr,-,rfl,hcv,-⟩
     ·simp at h1
     ·refine ⟨vs0,_,p,vs0,b,off,hrv,rfl,?_⟩
      rw[hcv]
      have:ix p.length 0 0=0:=by unfold ix;split <;>simp
      simp[ES,this,rowAt]
   | _=>simp[hg,A1] at hr
theorem D9 (h:BY C w a σ Lt cv fp) {x:Operand} {k:Nat} {pl:AO} {root:AA} (hx:AT x) (hr:A1 (AB σ.env x)=some (k,pl,root)) :
  root=AE σ.env k∧k<1000000∧∃ p cs d,root.root=some (p,cs,d)∧((∃ ag p' c' d' pin,root = .val ag p' c' d' pin)→AI root) ∧
   ∃ vs0 base0 el rv b o,AY w (cv k) root vs0 base0∧A8 w p vs0 base0 pl.path=some (el,rv,some (b,o)) ∧
    a.eval x = .pointer (some ⟨b,o+ix el.length pl.e pl.c,none⟩):=by
 obtain ⟨h1,h2,p,cs,d,h3,h4,vs0,base0,el,rv,b,o,h5,h6,h7,-⟩:=FC h hx hr
 exact ⟨h1,h2,p,cs,d,h3,h4,vs0,base0,el,rv,b,o,h5,h6,h7⟩
end
theorem Dr (f:Ieee.Format) (b:Nat) (h:f.binade≤f.infRung):(f.read b).isNaN=decide (f.infRung<b % f.signWeight):=by
 simp only[Ieee.Format.read]
 split
 ·simp only[Ieee.Datum.isNaN];symm;simp;omega
 ·split
  ·simp only[Ieee.Datum.isNaN];symm;simp;omega
  ·split
   ·simp only[Ieee.Datum.isNaN];symm;simp;omega
   ·simp only[Ieee.Datum.isNaN];symm;simp;omega
theorem IT (b:Nat):isNaN .f32 b=decide (2139095040<b % 2147483648):=by
 unfold isNaN FloatKind.decode
 exact Dr Ieee.single b (by decide)
theorem H0 (b:Nat):isNaN .f64 b=decide (9218868437227405312<b % 9223372036854775808):=by
 unfold isNaN FloatKind.decode
 exact Dr Ieee.double b (by decide)
theorem Dh (k:FloatKind):isNaN k (E5 k)=true:=by cases k <;>simp[IT,H0,E5]
theorem N3 (k:FloatKind) (b:Nat):Af k (Af k b)=Af k b:=by
 unfold Af
 by_cases h:isNaN k b=true
 ·simp[h,Dh]
 ·simp[h]
theorem CQ {k:FloatKind} {b:Nat} (h:isNaN k b=true):Af k b=E5 k:=by simp[Af,h]
theorem Bc {k:FloatKind} {b:Nat} (h:isNaN k b=false):Af k b=b:=by simp[Af,h]
theorem M8 (k:FloatKind) (b:Nat):isNaN k (Af k b)=isNaN k b:=by
 unfold Af
 by_cases h:isNaN k b=true
 ·simp[h,Dh]
 ·simp[h]
theorem EN {k:FloatKind} {b:Nat} (h:isNaN k b=true):∃ s t,k.format.read b = .nan s t:=by
 unfold isNaN FloatKind.decode Ieee.Datum.isNaN at h
 split at h
 ·exact ⟨_,_,by assumption⟩
 ·simp at h
theorem KN {α:Type} (k:FloatKind) (F:Ieee.Datum→Ieee.Datum→Option α) (h1:∀ s t d,F (.nan s t) d=none) (h2:∀ s t d,F d (.nan s t)=none) (x y:Nat) :
  F (k.format.read (Af k x)) (k.format.read (Af k y))=F (k.format.read x) (k.format.read y):=by
 by_cases hx:isNaN k x=true
 ·obtain ⟨s,t,e⟩:=EN hx
  obtain ⟨s',t',e'⟩:=EN (Dh k)
  rw[CQ hx,e,e',h1,h1]
 ·rw[Bc (by simpa using hx)]
  by_cases hy:isNaN k y=true
  ·obtain ⟨s,t,e⟩:=EN hy
   obtain ⟨s',t',e'⟩:=EN (Dh k)
   rw[CQ hy,e,e',h2,h2]
  ·rw[Bc (by simpa using hy)]
theorem Mt (s:Bool) (t:Nat) (d:Ieee.Datum):Ieee.Datum.sum (.nan s t) d=none:=by cases d <;>rfl
theorem Mq (s:Bool) (t:Nat) (d:Ieee.Datum):Ieee.Datum.sum d (.nan s t)=none:=by cases d <;>rfl
theorem Lj (s:Bool) (t:Nat) (d:Ieee.Datum):Ieee.Datum.product (.nan s t) d=none:=by cases d <;>rfl
theorem ML (s:Bool) (t:Nat) (d:Ieee.Datum):Ieee.Datum.product d (.nan s t)=none:=by cases d <;>rfl
theorem Kl (n:Nat) (s:Bool) (t:Nat) (d:Ieee.Datum):Ieee.Datum.quotient n (.nan s t) d=none:=by cases d <;>rfl
theorem Kh (n:Nat) (s:Bool) (t:Nat) (d:Ieee.Datum):Ieee.Datum.quotient n d (.nan s t)=none:=by cases d <;>rfl
theorem JF (s:Bool) (t:Nat) (d:Ieee.Datum):Ieee.Datum.order (.nan s t) d=none:=by cases d <;>rfl
theorem JI (s:Bool) (t:Nat) (d:Ieee.Datum):Ieee.Datum.order d (.nan s t)=none:=by cases d <;>rfl
theorem PP (k:FloatKind) (x y:Nat):k.format.add (Af k x) (Af k y)=k.format.add x y :=
 congrArg (Option.map k.format.write) (KN k Ieee.Datum.sum Mt Mq x y)
theorem Oy (k:FloatKind) (x y:Nat):k.format.sub (Af k x) (Af k y)=k.format.sub x y :=
 congrArg (Option.map k.format.write) (KN k (fun a b=>a.sum b.opposite) (fun s t d=>Mt _ _ _) (fun s t d=>Mq _ _ _) x y)
theorem PD (k:FloatKind) (x y:Nat):k.format.mul (Af k x) (Af k y)=k.format.mul x y :=
 congrArg (Option.map k.format.write) (KN k Ieee.Datum.product Lj ML x y)
theorem Pe (k:FloatKind) (x y:Nat):k.format.div (Af k x) (Af k y)=k.format.div x y :=
 congrArg (Option.map k.format.write) (KN k (Ieee.Datum.quotient (k.format.fractionBits+2)) (Kl _) (Kh _) x y)
theorem Ic (k:FloatKind) (x y:Nat):k.format.order (Af k x) (Af k y)=k.format.order x y :=
 KN k Ieee.Datum.order JF JI x y
theorem Nt (f:Ieee.Format) (s:Bool) (m:Nat) (e:Int) (h:f.infRung<f.signWeight):∃ r,f.nearest s m e=f.word s r∧r≤f.infRung:=by
 unfold Ieee.Format.nearest
 split
 ·exact ⟨0,rfl,Nat.zero_le _⟩
 ·exact ⟨_,rfl,Nat.min_le_right _ _⟩
theorem Ne (f:Ieee.Format) (s:Bool) (r:Nat) (h:r<f.signWeight):f.word s r % f.signWeight=r:=by
 unfold Ieee.Format.word
 split
 ·rw[Nat.add_mod_left,Nat.mod_eq_of_lt h]
 ·exact Nat.mod_eq_of_lt h
theorem El (k:FloatKind):k.format.infRung<k.format.signWeight:=by cases k <;>decide
theorem IA (k:FloatKind):k.format.binade≤k.format.infRung:=by cases k <;>decide
theorem Eg {k:FloatKind} {d:Ieee.Datum} (h:∀ s t,d ≠ .nan s t):isNaN k (k.format.write d)=false:=by
 unfold isNaN FloatKind.decode
 rw[Dr _ _ (IA k)]
 cases d with
 | nan s t=>exact absurd rfl (h s t)
 | infinity s =>
   simp only[Ieee.Format.write,Ne _ _ _ (El k)];simp
 | number s m e =>
   obtain ⟨r,hr,hle⟩:=Nt k.format s m e (El k)
   simp only[Ieee.Format.write,hr,Ne _ _ _ (Nat.lt_of_le_of_lt hle (El k))]
   simpa using hle
theorem DX {k:FloatKind} {o:Option Ieee.Datum} {r:Nat} (ho:∀ d,o=some d→∀ s t,d ≠ .nan s t) (h:o.map k.format.write=some r):Af k r=r:=by
 cases o with
 | none=>simp at h
 | some d =>
   simp only[Option.map_some,zS] at h
   subst h
   exact Bc (Eg (ho d rfl))
theorem Fc {x y d:Ieee.Datum} (h:x.sum y=some d):∀ s t,d ≠ .nan s t:=by
 intro s t e;subst e
 cases x <;>cases y <;>simp[Ieee.Datum.sum] at h
theorem FJ {x y d:Ieee.Datum} (h:x.product y=some d):∀ s t,d ≠ .nan s t:=by
 intro s t e;subst e
 cases x <;>cases y <;>simp[Ieee.Datum.product] at h
theorem Ef {n:Nat} {x y d:Ieee.Datum} (h:x.quotient n y=some d):∀ s t,d ≠ .nan s t:=by
 intro s t e;subst e
 cases x <;>cases y <;>simp[Ieee.Datum.quotient] at h
 all_goals (split at h <;>(try split at h) <;>simp at h)
theorem RV {k:FloatKind} {x y r:Nat} (h:k.format.add x y=some r):Af k r=r:=DX (fun _ hd=>Fc hd) h
theorem RA {k:FloatKind} {x y r:Nat} (h:k.format.sub x y=some r):Af k r=r:=DX (fun _ hd=>Fc hd) h
theorem RS {k:FloatKind} {x y r:Nat} (h:k.format.mul x y=some r):Af k r=r:=DX (fun _ hd=>FJ hd) h
theorem Rc {k:FloatKind} {x y r:Nat} (h:k.format.div x y=some r):Af k r=r:=DX (fun _ hd=>Ef hd) h
theorem L9 (k:FloatKind) (t:Nat):isNaN k (match k with
  | .f32=>(t % 2) * 2 ^ 31+0x7f800000+1+(t / 2) % (2 ^ 23 - 1)
  | .f64=>(t % 2) * 2 ^ 63+0x7ff0000000000000+1+(t / 2) % (2 ^ 52 - 1))=true:=by
 cases k
 ·simp only[IT,decide_eq_true_eq]
  have h1:t / 2 % (2 ^ 23 - 1)<8388607:=Nat.mod_lt _ (by decide)
  generalize t / 2 % (2 ^ 23 - 1)=r at h1 ⊢
  have h2:t % 2=0∨t % 2=1:=by omega
  rcases h2 with h2 | h2 <;>rw[h2] <;>omega
 ·simp only[H0,decide_eq_true_eq]
  have h1:t / 2 % (2 ^ 52 - 1)<4503599627370495:=Nat.mod_lt _ (by decide)
  generalize t / 2 % (2 ^ 52 - 1)=r at h1 ⊢
  have h2:t % 2=0∨t % 2=1:=by omega
  rcases h2 with h2 | h2 <;>rw[h2] <;>omega
theorem Nc (k:FloatKind) (x y t:Nat):isNaN k ((Question.nanBits k x y).cut t)=true:=by
 have:=L9 k t
 cases k <;>exact this
theorem Is (k:FloatKind) (x t:Nat):isNaN k ((Question.nanConv k x).cut t)=true:=by
 have:=L9 k t
 cases k <;>exact this
theorem KX (k:FloatKind) (m:Bool) (x y t:Nat):isNaN k ((Question.nanMinMax k m x y).cut t)=true:=by
 have:=L9 k t
 cases k <;>exact this
theorem RE (b n:Nat):(b ^^^ 2 ^ n) % 2 ^ n=b % 2 ^ n:=by
 rw[Nat.xor_mod_two_pow,Nat.mod_self,Nat.xor_zero]
theorem Kt (k:FloatKind) (b:Nat):isNaN k (Op.negFloat k b)=isNaN k b:=by
 unfold isNaN FloatKind.decode
 rw[Dr _ _ (IA k),Dr _ _ (IA k)]
 unfold Op.negFloat Ieee.Format.signWeight
 rw[RE]
theorem OG (k:FloatKind) (b:Nat):Af k (Op.negFloat k b)=R5 k (Af k b):=by
 unfold R5
 rw[M8]
 by_cases h:isNaN k b=true
 ·rw[if_pos h,CQ (by rw[Kt];exact h)]
 ·rw[if_neg h,Bc (by rw[Kt];simpa using h),Bc (b:=b) (by simpa using h)]
  rfl
section
variable {P:Program} {w:World}
theorem QL {op:BinOp} {k k':IntKind} {m n:Int} {r:T} (xt:TypeId) (h:BK op (.int k m) (.int k' n)=some r) :
  ∃ z,(binOp op xt (.int k m) (.int k' n)).run P w = .ok z w∧AG r z:=by
 cases op
 case shl =>
  simp only[BK] at h
  split at h <;>simp at h
  subst h
  exact ⟨_,by simp only[binOp,Op.shift];rw[if_neg (by omega)];rfl,rfl⟩
 case shr =>
  simp only[BK] at h
  split at h <;>simp at h
  subst h
  exact ⟨_,by simp only[binOp,Op.shift];rw[if_neg (by omega)];rfl,rfl⟩
 case quo =>
  simp only[BK] at h
  split at h <;>(try simp at h)
  obtain ⟨h0,rfl⟩:=h
  subst_vars
  exact ⟨_,by simp[binOp,Op.intDiv,h0],rfl⟩
 case rem =>
  simp only[BK] at h
  split at h <;>(try simp at h)
  obtain ⟨h0,rfl⟩:=h
  subst_vars
  exact ⟨_,by simp[binOp,Op.intDiv,h0],rfl⟩
 all_goals
  simp only[BK] at h
  split at h <;>simp at h
  subst_vars
  refine ⟨_,by simp[binOp,Op.intArith,Op.intBits,Op.intCmp];rfl,?_⟩
  simp[AG,intBits]
theorem QM {op:BinOp} {m n:List UInt8} {r:T} (xt:TypeId) (h:BK op (.str m) (.str n)=some r) :
  ∃ z,(binOp op xt (.string ⟨⟨m⟩⟩) (.string ⟨⟨n⟩⟩)).run P w = .ok z w∧AG r z:=by
 cases op
 case add =>
  simp only[BK] at h
  split at h <;>simp at h
  subst h
  refine ⟨.string (⟨⟨m⟩⟩++⟨⟨n⟩⟩),?_,?_⟩
  ·simp only[binOp,Op.stringOp]
   rw[if_neg]
   ·rfl
   ·simp[ByteArray.size,IntKind.max_i64];omega
  ·simp only[AG]
   congr 1
 all_goals
  simp only[BK] at h
  first
  | (simp at h;done)
  | (simp only[zS] at h
     subst h
     refine ⟨_,by simp[binOp,Op.stringOp];rfl,?_⟩
     simp[AG])
theorem GM {k:FloatKind} {op:BinOp} {x y:Nat} {o:Option Nat} (h:Op.floatArith op k x y=(do
   match o with
   | some r=>pure (.float k r)
   | none=>pure (.float k (← choose (.nanBits k x y))))) (hc:∀ r,o=some r→Af k r=r) :
  ∃ z w',(Op.floatArith op k x y).run P w = .ok z w'∧AG (PL k o) z∧(w'=w∨w'=w.drew):=by
 rw[h]
 cases o with
 | some r=>exact ⟨_,w,rfl,⟨r,rfl,hc r rfl⟩,.inl rfl⟩
 | none =>
   exact ⟨.float k ((Question.nanBits k x y).cut (w.tape w.drawn (.nanBits k x y))),w.drew,rfl,⟨_,rfl,CQ (Nc k x y _)⟩,.inr rfl⟩
theorem Pu {op:BinOp} {k k':FloatKind} {x y b c:Nat} {r:T} (xt:TypeId) (h:BK op (.flt k x) (.flt k' y)=some r) (hx:Af k b=x) (hy:Af k' c=y) :
  ∃ z w',(binOp op xt (.float k b) (.float k' c)).run P w = .ok z w'∧AG r z∧(w'=w∨w'=w.drew):=by
 subst hx hy
 cases op
 case add =>
  simp only[BK] at h;split at h <;>simp at h;rename_i hk;subst h;subst hk
  rw[PP]
  have:=GM (P:=P) (w:=w) (k:=k) (op:=.add) (x:=b) (y:=c) (o:=k.format.add b c) (by simp only[Op.floatArith];cases k.format.add b c <;>rfl) (fun r hr=>RV hr)
  simpa [binOp] using this
 case sub =>
  simp only[BK] at h;split at h <;>simp at h;rename_i hk;subst h;subst hk
  rw[Oy]
  have:=GM (P:=P) (w:=w) (k:=k) (op:=.sub) (x:=b) (y:=c) (o:=k.format.sub b c) (by simp only[Op.floatArith];cases k.format.sub b c <;>rfl) (fun r hr=>RA hr)
  simpa [binOp] using this
 case mul =>
  simp only[BK] at h;split at h <;>simp at h;rename_i hk;subst h;subst hk
  rw[PD]
  have:=GM (P:=P) (w:=w) (k:=k) (op:=.mul) (x:=b) (y:=c) (o:=k.format.mul b c) (by simp only[Op.floatArith];cases k.format.mul b c <;>rfl) (fun r hr=>RS hr)
  simpa [binOp] using this
 case quo =>
  simp only[BK] at h;split at h <;>simp at h;rename_i hk;subst h;subst hk
  rw[Pe]
  have:=GM (P:=P) (w:=w) (k:=k) (op:=.quo) (x:=b) (y:=c) (o:=k.format.div b c) (by simp only[Op.floatArith];cases k.format.div b c <;>rfl) (fun r hr=>Rc hr)
  simpa [binOp] using this
 all_goals
  simp only[BK] at h
  first
  | (simp at h;done)
  | (split at h <;>simp at h
     subst_vars
     refine ⟨_,w,by simp[binOp,Op.floatCmp];rfl,?_,.inl rfl⟩
     simp[AG,Ic])
theorem Pc {op:BinOp} {x y:Bool} {r:T} (xt:TypeId) (ht:P.underlying xt=some .bool) (h:BK op (.bool x) (.bool y)=some r) :
  ∃ z,(binOp op xt (.bool x) (.bool y)).run P w = .ok z w∧AG r z:=by
 cases op <;>simp only[BK] at h <;>(try (simp at h;done)) <;>simp only[zS] at h <;>subst h
 ·refine ⟨.bool (x==y),?_,rfl⟩
  simp only[binOp,Sem.run_bind]
  rw[run_equal_bool _ _ _ _ ht]
  rfl
 ·refine ⟨.bool (!(x==y)),?_,rfl⟩
  simp only[binOp,Sem.run_bind]
  rw[run_equal_bool _ _ _ _ ht]
  rfl
theorem N4 (b:Nat):intBits .andNot .u64 (b:Int) 9223372036854775808=((b % 9223372036854775808:Nat):Int):=by
 have h:(BitVec.ofInt 64 (b:Int) &&& ~~~(BitVec.ofInt 64 9223372036854775808)).toNat=b % 9223372036854775808:=by
  have e1:BitVec.ofInt 64 (b:Int)=BitVec.ofNat 64 b:=by
   apply BitVec.eq_of_toNat_eq
   simp
  have e2 : ~~~(BitVec.ofInt 64 9223372036854775808)=BitVec.ofNat 64 (2 ^ 63 - 1):=by decide
  rw[e1,e2,BitVec.toNat_and,BitVec.toNat_ofNat,BitVec.toNat_ofNat,Nat.mod_eq_of_lt (show 2 ^ 63 - 1<2 ^ 64 by decide),Nat.and_two_pow_sub_one_eq_mod]
  omega
 show IntKind.u64.wrap (((BitVec.ofInt 64 (b:Int) &&& ~~~(BitVec.ofInt 64 9223372036854775808)).toNat:Nat):Int)=_
 rw[h]
 have:=Nat.mod_lt b (show 0<9223372036854775808 by decide)
 rw[show IntKind.u64.wrap ((b % 9223372036854775808:Nat):Int)=((b % 9223372036854775808:Nat):Int) % 18446744073709551616 by simp[IntKind.wrap,IntKind.bits,IntKind.signed]]
 omega
theorem Nn {op:BinOp} {E:AX} {xt:Nat} {X Y:Operand} {u v r:T} {x y:Value} (hE:Bw P E) (hb:NP E xt u=true) (h:BK op u v=some r) (hx:AG u x) (hy:AG v y) :
  ∃ z w',(do eqGuard op xt X Y x y;binOp op xt x y:Sem Value).run P w = .ok z w'∧AG r z∧(w'=w∨w'=w.drew):=by
 cases u with
 | int k m =>
   simp only[AG] at hx;subst hx
   cases v with
   | int k' n =>
     simp only[AG] at hy;subst hy
     obtain ⟨z,h1,h2⟩:=QL (P:=P) (w:=w) xt h
     exact ⟨z,w,by rw[eqGuard_at_int];exact h1,h2,.inl rfl⟩
   | _=>simp[BK] at h
 | flt k m =>
   obtain ⟨b,rfl,hb1⟩:=hx
   cases v with
   | flt k' n =>
     obtain ⟨c,rfl,hc1⟩:=hy
     obtain ⟨z,w',h1,h2,h3⟩:=Pu (P:=P) (w:=w) xt h hb1 hc1
     exact ⟨z,w',by rw[eqGuard_at_float];exact h1,h2,h3⟩
   | _=>simp[BK] at h
 | str m =>
   simp only[AG] at hx;subst hx
   cases v with
   | str n =>
     simp only[AG] at hy;subst hy
     obtain ⟨z,h1,h2⟩:=QM (P:=P) (w:=w) xt h
     exact ⟨z,w,by rw[eqGuard_at_string];exact h1,h2,.inl rfl⟩
   | _=>simp[BK] at h
 | bool m =>
   simp only[AG] at hx;subst hx
   cases v with
   | bool n =>
     simp only[AG] at hy;subst hy
     have ht:P.underlying xt=some .bool:=by
      unfold NP at hb
      simp only at hb
      split at hb
      ·rename_i d hd
       obtain ⟨u,hu,hk,_⟩:=(hE xt d hd).und
       unfold FS at hk
       split at hb
       ·rename_i hkd;rw[hkd] at hk;rw[hu,hk]
       ·simp at hb
      ·simp at hb
     obtain ⟨z,h1,h2⟩:=Pc (P:=P) (w:=w) xt ht h
     exact ⟨z,w,by rw[eqGuard_at_bool];exact h1,h2,.inl rfl⟩
   | _=>simp[BK] at h
 | opq =>
   obtain ⟨b,hb0,rfl⟩:=hx
   cases v with
   | int k' n =>
     simp only[AG] at hy;subst hy
     cases k' <;>try (simp[BK] at h;done)
     cases op <;>try (simp[BK] at h;done)
     simp only[BK] at h
     split at h <;>simp at h
     subst h
     rename_i hn
     subst hn
     refine ⟨.int .u64 ((b % 9223372036854775808:Nat):Int),w,?_,⟨b % 9223372036854775808,?_,rfl⟩,.inl rfl⟩
     ·rw[eqGuard_at_int,← N4]
      simp[binOp,Op.intBits,intBits]
     ·rw[H0] at hb0 ⊢
      rw[Nat.mod_mod];exact hb0
   | _=>simp[BK] at h
 | _=>simp[BK] at h
theorem Ph {op:UnOp} {u r:T} {x:Value} (h:Q5 op u=some r) (hx:AG u x) :
  ∃ z,(Op.unary op x).run P w = .ok z w∧AG r z:=by
 cases u with
 | bool b =>
   simp only[AG] at hx;subst hx
   cases op <;>simp[Q5] at h
   subst h
   exact ⟨_,rfl,rfl⟩
 | int k n =>
   simp only[AG] at hx;subst hx
   cases op <;>simp[Q5] at h
   subst h
   exact ⟨.int k (k.wrap (0 - n)),by simp[Op.unary,Op.intArith],by simp[AG]⟩
 | flt k n =>
   obtain ⟨b,rfl,rfl⟩:=hx
   cases op <;>simp[Q5] at h
   subst h
   exact ⟨_,rfl,_,rfl,OG k b⟩
 | _=>simp[Q5] at h
end
section
variable {P:Program} {w:World}
theorem Kb (k:FloatKind) (n:Int):Af k (k.nearest n)=k.nearest n :=
 Bc (Eg (d:=.number _ _ _) (by simp))
theorem BP (k:FloatKind) (b:Nat):(Af k b=b)∨(∃ s t s' t',k.decode b = .nan s t∧k.decode (Af k b) = .nan s' t'):=by
 by_cases h:isNaN k b=true
 ·obtain ⟨s,t,e⟩:=EN h
  obtain ⟨s',t',e'⟩:=EN (Dh k)
  exact .inr ⟨s,t,s',t',e,by rw[CQ h];exact e'⟩
 ·exact .inl (Bc (by simpa using h))
theorem Jm {s:FloatKind} {b:Nat} {k:IntKind} {n:Int} (h:Eb s (Af s b) k=some n) :
  (Conv.floatToInt s b k).run P w = .ok (.int k n) w:=by
 unfold Eb at h
 rcases BP s b with hc | ⟨s1,t1,s2,t2,h1,h2⟩
 ·rw[hc] at h
  unfold Conv.floatToInt
  split at h
  ·rename_i m hm
   split at h
   ·rename_i hle
    simp only[zS] at h
    subst h
    simp[hm,hle]
   ·simp at h
  ·simp at h
 ·rw[h2] at h
  simp[Ieee.Datum.toInt,Ieee.Datum.integral] at h
theorem JJ {s k:FloatKind} {b:Nat} {y:Nat} (h:HE s (Af s b) k=some y) :
  ∃ z w',(Conv.floatToFloat s b k).run P w = .ok z w'∧AG (.flt k y) z∧(w'=w∨w'=w.drew):=by
 unfold HE at h
 unfold Conv.floatToFloat
 by_cases hk:s=k
 ·subst hk
  simp only[if_true,zS] at h
  subst h
  exact ⟨.float s b,w,by simp,⟨b,rfl,rfl⟩,.inl rfl⟩
 ·rw[if_neg hk] at h
  rw[if_neg hk]
  rcases BP s b with hc | ⟨s1,t1,s2,t2,h1,h2⟩
  ·rw[hc] at h
   split at h
   ·rename_i hd
    simp only[zS] at h
    subst h
    simp only[hd]
    exact ⟨.float k ((Question.nanConv k b).cut (w.tape w.drawn (.nanConv k b))),w.drew,rfl,⟨_,rfl,CQ (Is k b _)⟩,.inr rfl⟩
   ·rename_i hd
    simp only[zS] at h
    subst h
    simp only[hd]
    exact ⟨_,w,rfl,⟨_,rfl,Bc (Eg (by simp))⟩,.inl rfl⟩
   ·rename_i hd
    split at h
    ·simp at h
    rename_i hi
    simp only[zS] at h
    subst h
    simp only[hd]
    simp only[hi,Bool.false_eq_true,if_false]
    exact ⟨_,w,rfl,⟨_,rfl,Bc (Eg (by simp))⟩,.inl rfl⟩
  ·rw[h2] at h
   simp only[zS] at h
   subst h
   simp only[h1]
   exact ⟨.float k ((Question.nanConv k b).cut (w.tape w.drawn (.nanConv k b))),w.drew,rfl,⟨_,rfl,CQ (Is k b _)⟩,.inr rfl⟩
theorem Mw {src dst:Nat} {E:AX} {d:TD} {u r:T} {x:Value} {us:TypeDesc} (hs:P.underlying src=some us) (hns:∀ e,us ≠ .slice e)
  (hd:∃ ud,P.underlying dst=some ud∧FS E d ud) (h:Ib d.kd u=some r) (hx:AG u x) :
  ∃ z w',(convert src dst x).run P w = .ok z w'∧AG r z∧(w'=w∨w'=w.drew):=by
 obtain ⟨ud,h1,h2⟩:=hd
 unfold FS at h2
 unfold Ib at h
 split at h
 ·rename_i k k' n hk
  rw[hk] at h2
  simp only[AG] at hx
  subst h2 hx
  simp only[zS] at h
  subst h
  refine ⟨.int k (k.wrap n),w,?_,rfl,.inl rfl⟩
  simp only[convert,Sem.run_bind,run_underlying hs,run_underlying h1,Result.andThen_ok]
  cases us <;>simp[Conv.intToInt]
 ·rename_i k k' n hk
  rw[hk] at h2
  simp only[AG] at hx
  subst h2 hx
  simp only[zS] at h
  subst h
  refine ⟨.float k (k.nearest n),w,?_,⟨_,rfl,Kb k n⟩,.inl rfl⟩
  simp only[convert,Sem.run_bind,run_underlying hs,run_underlying h1,Result.andThen_ok]
  cases us <;>simp[Conv.intToFloat]
 ·rename_i k s x' hk
  rw[hk] at h2
  obtain ⟨b,rfl,rfl⟩:=hx
  subst h2
  split at h
  ·rename_i n hn
   simp only[zS] at h
   subst h
   refine ⟨.int k n,w,?_,rfl,.inl rfl⟩
   have:=Jm (P:=P) (w:=w) hn
   simp only[convert,Sem.run_bind,run_underlying hs,run_underlying h1,Result.andThen_ok]
   cases us <;>simpa using this
  ·simp at h
 ·rename_i k s x' hk
  rw[hk] at h2
  obtain ⟨b,rfl,rfl⟩:=hx
  subst h2
  split at h
  ·rename_i n hn
   simp only[zS] at h
   subst h
   obtain ⟨z,w',e1,e2,e3⟩:=JJ (P:=P) (w:=w) hn
   refine ⟨z,w',?_,e2,e3⟩
   simp only[convert,Sem.run_bind,run_underlying hs,run_underlying h1,Result.andThen_ok]
   cases us <;>simpa using e1
  ·simp at h
 ·rename_i hk
  rw[hk] at h2
  simp only[AG] at hx
  subst h2 hx
  simp only[zS] at h
  subst h
  refine ⟨_,w,?_,rfl,.inl rfl⟩
  simp only[convert,Sem.run_bind,run_underlying hs,run_underlying h1,Result.andThen_ok]
  cases us <;>simp
 ·simp at h
theorem HV {Fz:Nat→Prop} {Lt:Nat→Nat→Prop} {g:Nat}:∀ {ts:List T} {bs:List UInt8} {vs:List Value} {fp:Fp} {n:Nat},Cb ts=some bs→R w Fz Lt g (rep n [.leaf]) ts vs fp →
  (∀ c∈vs,∃ n:Int,c = .int .u8 n)∧vs.map (fun c=>match c with | .int _ n=>UInt8.ofNat n.toNat | _=>0)=bs
 | [],bs,vs,fp,n,h,hR=>by
   simp only[Cb,zS] at h
   subst h
   have:=hR.lengths
   cases vs with
   | nil=>simp
   | cons=>simp at this
 | t::ts,bs,vs,fp,n,h,hR=>by
   unfold Cb at h
   split at h
   ·simp_all
   ·rename_i heq
    obtain ⟨rfl,rfl⟩:=List.cons.inj heq
    split at h
    ·simp at h
    ·rename_i bs' hb
     simp only[zS] at h
     subst h
     cases n with
     | zero=>simp[rep] at hR;cases hR
     | succ n =>
       have e:rep (n+1) [Pm.leaf] = .leaf::rep n [.leaf]:=by simp[rep,replicate_succ]
       rw[e] at hR
       cases hR with
       | leaf hl r =>
         simp only[AG] at hl
         subst hl
         obtain ⟨k1,k2⟩:=HV hb r
         exact ⟨by simpa using k1,by simp[k2]⟩
   ·simp at h
theorem FO:∀ (vs:List Value) (acc:ByteArray),(∀ c∈vs,∃ n:Int,c = .int .u8 n) →
  (forIn (m:=Sem) vs acc fun c s=>(match c with
    | .int .u8 n=>pure (ForInStep.yield (s.push (UInt8.ofNat n.toNat)))
    | _=>do
      stuck "bytesToString: byte expected"
      pure (ForInStep.yield s):Sem (ForInStep ByteArray))).run P w =
  .ok ⟨⟨acc.data.toList++vs.map (fun c=>match c with | .int _ n=>UInt8.ofNat n.toNat | _=>0)⟩⟩ w
 | [],acc,_=>by simp
 | v::vs,acc,h=>by
   obtain ⟨n,rfl⟩:=h v (by simp)
   simp only[List.forIn_cons,pure_bind]
   rw[FO vs _ (fun c hc=>h c (by simp[hc]))]
   simp[ByteArray.push]
theorem Hg {b off n cap:Nat} {row:Array Value} {e:TypeId} {fr:Nat × Nat} (hb:w.heap[b]?=some (.cells row e fr)) (hr:off+n≤row.size)
  (h:∀ c∈seg row off n,∃ m:Int,c = .int .u8 m) :
  (Conv.bytesToString (.slice (some ⟨b,off,none⟩) n cap)).run P w =
    .ok (.string ⟨⟨(seg row off n).map (fun c=>match c with | .int _ n=>UInt8.ofNat n.toNat | _=>0)⟩⟩) w:=by
 have:=FO (P:=P) (w:=w) (seg row off n) .empty h
 simp only[Conv.bytesToString,Sem.run_bind,EE hb hr,Result.andThen_ok,Array.forIn_toList.symm]
 refine (congrArg (fun r=>Result.andThen r fun a w'=>Sem.run P (pure (Value.string a)) w') this).trans rfl
theorem L6 {m:Bool} {u v r:T} {x y:Value} (h:G7 m u v=some r) (hx:AG u x) (hy:AG v y) :
  ∃ z w',(if m then Builtin.max2 x y else Builtin.min2 x y).run P w = .ok z w'∧AG r z∧(w'=w∨w'=w.drew):=by
 unfold G7 at h
 split at h
 ·simp only[AG] at hx hy
  subst hx hy
  cases m
  ·simp only[Bool.false_eq_true,if_false,zS] at h ⊢
   subst h
   exact ⟨_,w,by simp[Builtin.min2],rfl,.inl rfl⟩
  ·simp only[if_true,zS] at h ⊢
   subst h
   exact ⟨_,w,by simp[Builtin.max2],rfl,.inl rfl⟩
 ·rename_i k x0 k' y0
  obtain ⟨b,rfl,rfl⟩:=hx
  obtain ⟨c,rfl,rfl⟩:=hy
  by_cases hk:k=k'
  ·subst hk
   simp only[ne_eq,not_true_eq_false,if_false,Ic] at h
   cases ho:k.format.order b c with
   | none =>
     simp only[ho,zS] at h
     subst h
     refine ⟨.float k ((Question.nanMinMax k m b c).cut (w.tape w.drawn (.nanMinMax k m b c))),w.drew,?_,⟨_,rfl,CQ (KX k m b c _)⟩,.inr rfl⟩
     cases m <;>simp only[Bool.false_eq_true,if_false,if_true,Builtin.max2,Builtin.min2,ho] <;>rfl
   | some o =>
     have hxn:Af k b=b:=by
      rcases BP k b with hc | ⟨s1,t1,s2,t2,h1,h2⟩
      ·exact hc
      ·simp only[Ieee.Format.order] at ho
       unfold FloatKind.decode at h1
       rw[h1,JF] at ho;simp at ho
     have hyn:Af k c=c:=by
      rcases BP k c with hc | ⟨s1,t1,s2,t2,h1,h2⟩
      ·exact hc
      ·simp only[Ieee.Format.order] at ho
       unfold FloatKind.decode at h1
       rw[h1,JI] at ho;simp at ho
     rw[hxn,hyn] at h
     cases o <;>simp only[ho,zS] at h <;>subst h <;>cases m <;>
      simp only[Bool.false_eq_true,if_false,if_true,Builtin.max2,Builtin.min2,ho]
     all_goals first
      | exact ⟨_,w,rfl,⟨_,rfl,hxn⟩,.inl rfl⟩
      | exact ⟨_,w,rfl,⟨_,rfl,hyn⟩,.inl rfl⟩
      | (cases (k.decode b).neg <;>first
          | exact ⟨_,w,rfl,⟨_,rfl,hxn⟩,.inl rfl⟩
          | exact ⟨_,w,rfl,⟨_,rfl,hyn⟩,.inl rfl⟩)
  ·simp[hk] at h
 ·simp at h
theorem Gg {m:Bool}:∀ {us:List T} {xs:List Value} {u r:T} {x:Value} {w:World},Ct m u us=some r→AG u x→xs.length=us.length →
  (∀ (i:Nat) (t:T) (v:Value),us[i]?=some t→xs[i]?=some v→AG t v) →
  ∃ z w',(xs.foldlM (if m then Builtin.max2 else Builtin.min2) x).run P w = .ok z w'∧AG r z∧Ab w w' (fun _ _=>False)
 | [],xs,u,r,x,w,h,hx,hl,_=>by
   simp only[Ct,zS] at h
   subst h
   cases xs with
   | nil=>exact ⟨x,w,rfl,hx,Ab.refl _ _⟩
   | cons=>simp at hl
 | t::us,xs,u,r,x,w,h,hx,hl,ha=>by
   unfold Ct at h
   cases hm:G7 m u t with
   | none=>simp[hm] at h
   | some r1 =>
     simp only[hm] at h
     cases xs with
     | nil=>simp at hl
     | cons y ys =>
       obtain ⟨z,w',e1,e2,e3⟩:=L6 (P:=P) (w:=w) hm hx (ha 0 t y rfl rfl)
       obtain ⟨z',w'',f1,f2,f3⟩:=Gg (w:=w') h e2 (by simpa using hl) (fun i a b ha' hb'=>ha (i+1) a b (by simpa using ha') (by simpa using hb'))
       refine ⟨z',w'',?_,f2,?_⟩
       ·simp only[List.foldlM_cons,Sem.run_bind]
        have:((if m=true then Builtin.max2 else Builtin.min2) x y).run P w = .ok z w' :=by cases m <;>simpa using e1
        rw[this]
        exact f1
       ·have:Ab w w' (fun _ _=>False):=by
         rcases e3 with rfl | rfl
         ·exact Ab.refl _ _
         ·exact (Ab.refl w _).drew
        exact this.trans f3 (fun _ _ h=>h) (fun _ _ _ h=>h)
end
section
variable {C:BU} {w w':World} {a a':Act} {σ:AS} {Lt Lt':Nat→Nat→Prop} {cv cv':Nat→Value} {fp fpU:Nat→Fp} {g':Nat} {env':List (Nat × AA)} {o:Oper}
theorem BU.Ok.part {C:BU} {x y:Fe} (h:C.Ok y) (hb:y.b=x.b) (hl:y.lo≤x.lo) (ht:x.t≤y.t):C.Ok x:=by
 rcases h with h | ⟨z,hz,h1,h2,h3⟩
 ·exact .inl (hb ▸ h)
 ·exact .inr ⟨z,hz,h1.trans hb,Nat.le_trans h2 hl,Nat.le_trans ht h3⟩
open Classical in
theorem BY.turn {W:Nat→Nat→Prop} {ow:Nat→Nat} (U:Nat→Prop) (h:BY C w a σ Lt cv fp) (hx:Ab w w' W)
  (hW:∀ b j,b<w.heap.size→W b j→C.w0.heap.size≤b∨C.Mut b j)
  (hg:(g'=σ.g∧(∀ b j,Lt b j→Lt' b j)∧(∀ b j,Lt b j→¬ W b j))∨(σ.g<g'∧Lt'=fun _ _=>False))
  (htm:∀ k,k<1000000→cv' k=a'.tmps.getD k undef) (hsz:a'.tmps.size≤1000000)
  (hu:∀ k,¬ U k→AE env' k=AE σ.env k∧cv' k=cv k∧(∀ n,AE σ.env k = .tup n→n≤16→∀ i,i<n→cv' (AF k i)=cv (AF k i)) ∧
     (∀ x∈fp k,(∀ j,x.lo≤j→(j<x.hi∨j=x.lo)→¬ W x.b j)∧∀ j,x.l≤j→¬ Lt' x.b j))
  (hU:∀ k,U k→AR C w' Lt' g' cv' env' k (fpU k) (AE env' k)∧((fpU k).map Fe.b).Nodup ∧
    (∀ k'∈(AE env' k).looks,k'<1000000∧AI (AE env' k')) ∧
    (k<1000000→AI (AE σ.env k)→AC w w' (cv k) (AE σ.env k) (cv' k) (AE env' k)∧AI (AE env' k)) ∧
    (∀ x∈fpU k,ow x.b=k∧(w.heap.size≤x.b∨∃ k0,U k0∧∃ y∈fp k0,y.b=x.b∧y.lo≤x.lo∧x.t≤y.t)))
  (hlt:∀ b j,Lt' b j→b<w'.heap.size):∃ fp',BY C w' a' ⟨env',g'⟩ Lt' cv' fp' :=by
 refine ⟨fun k=>if U k then fpU k else fp k,h.step hx hW hg htm hsz (fun k => ?_) ?_ hlt⟩
 ·by_cases hk:U k
  ·obtain ⟨h1,h2,h3,h4,h5⟩:=hU k hk
   simp only[if_pos hk]
   refine .inr ⟨h1,h2,fun f hf => ?_,h3⟩
   rcases (h5 f hf).2 with h6 | ⟨k0,hk0,y,hy,e1,e2,e3⟩
   ·exact .inl (Nat.le_trans h.ext.size h6)
   ·exact (h.wok k0 y hy).part e1 e2 e3
  ·obtain ⟨h1,h2,h3,h4⟩:=hu k hk
   simp only[if_neg hk]
   refine .inl ⟨h1,trivial,h2,h3,h4,fun k' hk' => ?_⟩
   have hs:=(h.looks k k' hk').2
   by_cases hk2:U k'
   ·exact (hU k' hk2).2.2.2.1 (h.looks k k' hk').1 hs
   ·obtain ⟨e1,e2,_,e4⟩:=hu k' hk2
    rw[e1,e2]
    exact ⟨AC.same (h.slots k') hx (fun x hx'=>(e4 x hx').1),hs⟩
 ·have key:∀ j k,j≠k→U j→¬ U k→∀ x∈fpU j,∀ y∈fp k,x.b≠y.b:=by
   intro j k _ hj hk x hx' y hy e
   rcases ((hU j hj).2.2.2.2 x hx').2 with h6 | ⟨k0,hk0,z,hz,e1,-⟩
   ·have:=((h.slots k).inHeap hy).1
    omega
   ·have:k0≠k:=fun e=>hk (e ▸ hk0)
    exact h.disj k0 k this z hz y hy (e1.trans e)
  intro j k hjk x hx' y hy e
  by_cases hj:U j <;>by_cases hk:U k
  ·rw[if_pos hj] at hx'
   rw[if_pos hk] at hy
   have e1:=((hU j hj).2.2.2.2 x hx').1
   have e2:=((hU k hk).2.2.2.2 y hy).1
   rw[e] at e1
   exact hjk (e1.symm.trans e2)
  ·rw[if_pos hj] at hx'
   rw[if_neg hk] at hy
   exact key j k hjk hj hk x hx' y hy e
  ·rw[if_neg hj] at hx'
   rw[if_pos hk] at hy
   exact key k j hjk.symm hk hj y hy x hx' e.symm
  ·rw[if_neg hj] at hx'
   rw[if_neg hk] at hy
   exact h.disj j k hjk x hx' y hy e
theorem BY.quiet (h:BY C w a σ Lt cv fp) (hx:Ab w w' (fun _ _=>False)):BY C w' a σ Lt cv fp :=
 h.step (W:=fun _ _=>False) hx (by simp) (.inl ⟨rfl,fun _ _ h=>h,by simp⟩) h.tmps h.size
  (fun k => .inl ⟨rfl,rfl,rfl,fun _ _ _ _ _=>rfl,fun _ hx'=>⟨by simp,(h.slots k).noLt hx'⟩,fun k' hk'=>⟨AC.same (h.slots k') hx (by simp),(h.looks k k' hk').2⟩⟩)
  h.disj (fun b j hb=>by have:=h.lt b j hb;have:=hx.size;omega)
def AN (C:BU) (o:Oper) (a:Act) (w:World) (σ':AS):Prop :=
 ∀ next Q,(∀ v w',St C w' (a.put o.dst v) σ'→next (a.put o.dst v) w')→o.wp C.P a w next Q
theorem AN.value {σ':AS} {v:Value} (hr:(execOp a.eval o).run C.P w = .ok (.value v) w') (h:St C w' (a.put o.dst v) σ'):AN C o a w σ' :=by
 intro next Q hn
 simp only[Oper.wp,Oper.upon,hr]
 exact hn v w' h
theorem AN.skip {σ':AS} (hr:(execOp a.eval o).run C.P w = .ok .skip w') (h:St C w' (a.put o.dst undef) σ'):AN C o a w σ' :=by
 intro next Q hn
 simp only[Oper.wp,Oper.upon,hr]
 exact hn undef w' h
theorem Act.put_defers' (a:Act) (d:Option Nat) (v:Value):(a.put d v).defers=a.defers:=by cases d <;>rfl
theorem B9 {old:AA} {ups:List (Nat × AA)} {d:Nat} {s:AA} (h:C0 o old ups=true) (hd:o.dst=some d) (hs:AE ups d=s) :
  d ∉ s.looks∧(AH o.op=true∨A0 old=true∨s.root=none):=by
 unfold C0 at h
 simp only[hd,hs,zB,Bool.not_eq_true',Bool.or_eq_true] at h
 refine ⟨fun hm => ?_,?_⟩
 ·have:=h.1
  rw[any_eq_false] at this
  exact this d hm (by simp)
 ·rcases h.2 with (h | h) | h
  ·exact .inl h
  ·exact .inr (.inl h)
  ·right;right
   cases hr:s.root with
   | none=>rfl
   | some=>simp[hr] at h
theorem AN.one {σ:AS} {v:Value} {s:AA} (hdf:a.defers=[]) (h:BY C w a σ Lt cv fp) (hx:Ab w w' (fun _ _=>False))
  (hr:(execOp a.eval o).run C.P w = .ok (.value v) w')
  (hd:∀ d,o.dst=some d→d<a.tmps.size)
  (hfr:∀ d,o.dst=some d→C0 o (AE σ.env d) (AL o s)=true) (hna:AH o.op=false)
  (hs:∀ d,o.dst=some d→d ∉ s.looks→AR C w' Lt σ.g (fun k=>if k=d then v else cv k) ((d,s)::σ.env) d [] s)
  (hl:∀ k∈s.looks,k<1000000∧AI (AE σ.env k)) (hso:AI s∨s.root≠none) :
  AN C o a w ⟨Ae (AL o s) σ.env,σ.g⟩:=by
 refine AN.value hr ?_
 refine ⟨by rw[Act.put_defers'];exact hdf,?_⟩
 cases hdst:o.dst with
 | none =>
   simp only[AL,hdst,Ae,Act.put]
   exact ⟨Lt,cv,fp,h.quiet hx⟩
 | some d =>
   simp only[AL,hdst,Ae]
   have hg:AE (AL o s) d=s:=by simp[AL,hdst,AE]
   obtain ⟨h1,h2⟩:=B9 (hfr d hdst) hdst hg
   rw[hna] at h2
   simp only[Bool.false_eq_true,false_or] at h2
   obtain ⟨cv',fp',h'⟩:=h.put1 hx (v:=v) (hd d hdst) (hs d hdst h1) h2.symm (fun k hk=>⟨(hl k hk).1,fun e=>h1 (e ▸ hk),(hl k hk).2⟩)
    (by rcases h2 with h2 | h2
        ·exact .inr h2
        ·exact .inl (hso.resolve_right (fun e=>e h2)))
   exact ⟨Lt,cv',fp',h'⟩
theorem AN.val {σ:AS} {v:Value} {ag:Bool} {p:List Pm} {cs:List T} {vs:List Value} (hdf:a.defers=[]) (h:BY C w a σ Lt cv fp) (hx:Ab w w' (fun _ _=>False))
  (hr:(execOp a.eval o).run C.P w = .ok (.value v) w')
  (hd:∀ d,o.dst=some d→d<a.tmps.size)
  (hfr:∀ d,o.dst=some d→C0 o (AE σ.env d) (AL o (.val ag p cs [] 0))=true) (hna:AH o.op=false)
  (hc:AD ag v vs) (hR:R w' C.Fz Lt σ.g p cs vs []) :
  AN C o a w ⟨Ae (AL o (.val ag p cs [] 0)) σ.env,σ.g⟩ :=
 AN.one hdf h hx hr hd hfr hna (fun d _ _=>⟨vs,by simpa using hc,hR,by simp⟩) (by simp[AA.looks]) (.inr (by simp[AA.root]))
theorem AN.leaf {σ:AS} {v:Value} {t:T} (hdf:a.defers=[]) (h:BY C w a σ Lt cv fp) (hx:Ab w w' (fun _ _=>False))
  (hr:(execOp a.eval o).run C.P w = .ok (.value v) w')
  (hd:∀ d,o.dst=some d→d<a.tmps.size)
  (hfr:∀ d,o.dst=some d→C0 o (AE σ.env d) (AL o (.val false [.leaf] [t] [] 0))=true) (hna:AH o.op=false)
  (hl:AG t v) :
  AN C o a w ⟨Ae (AL o (.val false [.leaf] [t] [] 0)) σ.env,σ.g⟩ :=
 AN.val hdf h hx hr hd hfr hna (vs:=[v]) (by simp[AD]) (.leaf hl .nil)
theorem BY.reads (h:BY C w a σ Lt cv fp) {g:Nat} {p:List Pm} {cs:List T} {vs:List Value} (hx:Ab w w' (fun _ _=>False)) (hR:R w C.Fz Lt g p cs vs []):R w' C.Fz Lt g p cs vs [] :=
 hR.mono hx (fun _ h=>h) (fun _ _ h=>h) (by simp) (by simp) (by simp)
end
structure DT (C:BU) (o:Oper) (w:World) (a:Act) (σ:AS) (Lt:Nat→Nat→Prop) (cv:Nat→Value) (fp:Nat→Fp):Prop where
 st:BY C w a σ Lt cv fp
 df:a.defers=[]
 ty:Bw C.P C.E
 dst:∀ d,o.dst=some d→d<a.tmps.size
 opn:∀ x∈o.op.operands.toList,AT x
section
variable {C:BU} {w w':World} {a a':Act} {σ:AS} {Lt Lt':Nat→Nat→Prop} {cv cv':Nat→Value} {fp fpU:Nat→Fp} {g':Nat} {env':List (Nat × AA)} {o:Oper}
def Av (o:Oper) (σ:AS) (ups:List (Nat × AA)):Prop:=∀ d,o.dst=some d→C0 o (AE σ.env d) ups=true
theorem J5 {rv:List Value} {p:List Pm} {ag:Bool} (h:rv.length=p.length):Desk.pick rv p (ES p ag)=rv:=by
 have:ix p.length 0 0=0:=by unfold ix;split <;>simp
 simp only[Desk.pick,ES,this,drop_zero]
 rw[← h,take_length]
theorem HL (n:Nat):ix n 0 0=0:=by unfold ix;split <;>simp
theorem Mb {k:Nat} {ag:Bool} {p:List Pm} {cs:List T} {d:CE} {pin:Nat} {f:Fp} (h:AR C w Lt σ.g cv σ.env k f (.val ag p cs d pin)) :
  OX w (cv k) (.val ag p cs d pin) (ES p ag) (cv k):=by
 intro P CS D hr hst
 simp only[AA.root,zS,zP] at hr
 obtain ⟨rfl,rfl,rfl⟩:=hr
 obtain ⟨vs,h1,h2,-⟩:=h
 exact ⟨vs,none,p,vs,none,⟨h1,rfl⟩,rfl,by rw[J5 h2.length_eq.2];exact h1,rfl⟩
theorem OL {k:Nat} {p:List Pm} {cs:List T} {d:CE} {pin:Nat} {f:Fp} (h:AR C w Lt σ.g cv σ.env k f (.box p cs d pin)) :
  Ld w (cv k) (.box p cs d pin) (ES p false) (cv k):=by
 intro P CS D hr hst
 obtain ⟨vs0,base0,fI,hrv,-,-,hk⟩:=h.rootR hr
 simp only[AA.root,zS,zP] at hr
 obtain ⟨rfl,rfl,rfl⟩:=hr
 rcases hk with ⟨_,_,h1,_⟩ | ⟨pin',b,off,row,e,fr,-,rfl,hcv,-⟩
 ·simp at h1
 ·exact ⟨vs0,_,p,vs0,b,off,hrv,rfl,by rw[hcv];simp[ES,HL],rfl⟩
theorem IZ {d:Nat} {v:Value} {s:AA}:∀ {caps:List (Nat × AO)} {vs:List Value},d ∉ caps.map (·.1)→CJ w cv σ.env caps vs →
  CJ w (fun k=>if k=d then v else cv k) ((d,s)::σ.env) caps vs
 | [],[],_,_=>trivial
 | c::caps,u::vs,h,hc=>by
   simp only[map_cons,mem_cons,not_or] at h
   refine ⟨?_,IZ h.2 hc.2⟩
   have e:¬ d=c.1:=h.1
   have e':¬ c.1=d:=fun x=>h.1 x.symm
   simp only[BM,if_neg e,if_neg e']
   exact hc.1
 | [],_::_,_,hc=>hc.elim
 | _::_,[],_,hc=>hc.elim
theorem AR.copy {t d:Nat} {s s':AA} {f:Fp} (h:AR C w Lt σ.g cv σ.env t f s) (hs:(∃ k pl,s = .view k pl)∨(∃ k pl,s = .ptr k pl)∨∃ fn caps,s = .clo fn caps) (hd:d ∉ s.looks) :
  AR C w Lt σ.g (fun k=>if k=d then cv t else cv k) ((d,s')::σ.env) d [] s:=by
 rcases hs with ⟨k,pl,rfl⟩ | ⟨k,pl,rfl⟩ | ⟨fn,caps,rfl⟩
 ·simp only[AA.looks,mem_singleton] at hd
  refine ⟨rfl,?_⟩
  simp only[BM,if_neg hd,if_neg (fun e=>hd e.symm:¬ k=d),if_true]
  exact h.2
 ·simp only[AA.looks,mem_singleton] at hd
  refine ⟨rfl,?_⟩
  simp only[BM,if_neg hd,if_neg (fun e=>hd e.symm:¬ k=d),if_true]
  exact h.2
 ·obtain ⟨-,vs,h1,h2⟩:=h
  exact ⟨rfl,vs,by simpa using h1,IZ hd h2⟩
theorem NJ (H:DT C o w a σ Lt cv fp) {x:Operand} (hx:AT x) (hr:(execOp a.eval o).run C.P w = .ok (.value (a.eval x)) w) (hna:AH o.op=false)
  {out:A9} (h:BW C.E o (AB σ.env x)=some out) (hfr:Av o σ out.ups) (hnt:∀ t cs,AB σ.env x ≠ .tup t cs) :
  out.g=none∧AN C o a w ⟨Ae out.ups σ.env,σ.g⟩:=by
 have hst:=H.st
 cases x with
 | const c =>
   simp only[AB,BW] at h
   split at h
   ·simp at h
   ·rename_i v hv
    simp only[zS] at h
    subst h
    obtain ⟨vs,h1,h2⟩:=Bu (w:=w) (Lt:=Lt) (Fz:=C.Fz) (g:=σ.g) hv
    exact ⟨rfl,AN.val H.df hst (Ab.refl _ _) hr H.dst hfr hna h1 h2⟩
 | global g=>simp[AB,BW] at h
 | func f=>simp[AB,BW] at h
 | tmp t =>
   rw[AJ] at h hnt
   rw[Ay hst hx] at hr
   have hs:=hst.slots t
   cases hg:AE σ.env t with
   | val ag p cs d pin =>
     simp only[hg,BW] at h
     split at h
     ·rename_i hn
      simp only[zS] at h
      subst h
      rw[hg] at hs
      obtain ⟨vs,h1,h2,-⟩:=hs
      have:=h2.noOwn hn
      rw[this] at h2
      exact ⟨rfl,AN.val H.df hst (Ab.refl _ _) hr H.dst hfr hna h1 h2⟩
     ·rename_i hn
      simp only[zS] at h
      subst h
      rw[hg] at hs
      refine ⟨rfl,AN.one H.df hst (Ab.refl _ _) hr H.dst hfr hna (fun d _ hd=>⟨rfl,?_⟩) ?_ (.inl trivial)⟩
      ·simp only[AA.looks,mem_singleton] at hd
       simp only[BM,if_neg hd,if_neg (fun e=>hd e.symm:¬ t=d),if_true,hg]
       exact Mb hs
      ·simp only[AA.looks,mem_singleton,forall_eq]
       refine ⟨hx,?_⟩
       rw[hg]
       cases d <;>simp[AI,hn]
   | box p cs d pin =>
     simp only[hg,BW,zS] at h
     subst h
     rw[hg] at hs
     refine ⟨rfl,AN.one H.df hst (Ab.refl _ _) hr H.dst hfr hna (fun d _ hd=>⟨rfl,?_⟩) ?_ (.inl trivial)⟩
     ·simp only[AA.looks,mem_singleton] at hd
      simp only[BM,if_neg hd,if_neg (fun e=>hd e.symm:¬ t=d),if_true,hg]
      exact OL hs
     ·simp only[AA.looks,mem_singleton,forall_eq]
      exact ⟨hx,by rw[hg];trivial⟩
   | view k pl =>
     simp only[hg,BW,zS] at h
     subst h
     rw[hg] at hs
     exact ⟨rfl,AN.one H.df hst (Ab.refl _ _) hr H.dst hfr hna (fun d _ hd=>hs.copy (.inl ⟨_,_,rfl⟩) hd) (fun k' hk'=>hst.looks t k' (by rw[hg];exact hk')) (.inl trivial)⟩
   | ptr k pl =>
     simp only[hg,BW,zS] at h
     subst h
     rw[hg] at hs
     exact ⟨rfl,AN.one H.df hst (Ab.refl _ _) hr H.dst hfr hna (fun d _ hd=>hs.copy (.inr (.inl ⟨_,_,rfl⟩)) hd) (fun k' hk'=>hst.looks t k' (by rw[hg];exact hk')) (.inl trivial)⟩
   | clo f caps =>
     simp only[hg,BW,zS] at h
     subst h
     rw[hg] at hs
     have e:(caps.map (fun c=>(c.1,c.2,AE σ.env c.1))).map (fun c=>(c.1,c.2.1))=caps:=by
      rw[map_map];simp[Function.comp_def]
     simp only[e] at hfr ⊢
     exact ⟨trivial,AN.one H.df hst (Ab.refl _ _) hr H.dst hfr hna (fun d _ hd=>hs.copy (.inr (.inr ⟨_,_,rfl⟩)) hd) (fun k' hk'=>hst.looks t k' (by rw[hg];exact hk')) (.inl trivial)⟩
   | tup n=>exact absurd (by rw[hg]) (hnt t _)
   | _=>simp[hg,BW] at h
end
section
variable {C:BU} {w w':World} {a a':Act} {σ:AS} {Lt Lt':Nat→Nat→Prop} {cv cv':Nat→Value} {fp fpU:Nat→Fp} {g':Nat} {env':List (Nat × AA)} {o:Oper}
theorem B5 {P:Program} {s:Sem Value} {v:Value} (h:s.run P w = .ok v w'):(do pure (Next.value (← s)):Sem Next).run P w = .ok (.value v) w' :=by
 simp only[Sem.run_bind,h,Result.andThen_ok,Sem.run_pure]
theorem Mj (h:w'=w∨w'=w.drew):Ab w w' (fun _ _=>False):=by
 rcases h with rfl | rfl
 ·exact Ab.refl _ _
 ·exact (Ab.refl w _).drew
theorem BE (H:DT C o w a σ Lt cv fp) {v:Value} {tt:Option T} (hx:Ab w w' (fun _ _=>False)) (hr:(execOp a.eval o).run C.P w = .ok (.value v) w') (hna:AH o.op=false)
  {out:A9} (h:A3 o tt=some out) (hfr:Av o σ out.ups) (hl:∀ t,tt=some t→AG t v) :
  out.g=none∧AN C o a w ⟨Ae out.ups σ.env,σ.g⟩:=by
 unfold A3 at h
 cases ht:tt with
 | none=>simp[ht] at h
 | some t =>
   simp only[ht,zS] at h
   subst h
   exact ⟨rfl,AN.leaf H.df H.st hx hr H.dst hfr hna (hl t ht)⟩
theorem OD (H:DT C o w a σ Lt cv fp) {op:BinOp} {xt yt:TypeId} {X Y:Operand} (hop:o.op = .binOp op xt X Y yt) {u v:T}
  (hX:As C.E xt (AB σ.env X)=some u) (hY:As C.E yt (AB σ.env Y)=some v) (hb:NP C.E xt u=true)
  {out:A9} (h:A3 o (BK op u v)=some out) (hfr:Av o σ out.ups) :
  out.g=none∧AN C o a w ⟨Ae out.ups σ.env,σ.g⟩:=by
 have hx:=Ai H.st (H.opn X (by simp[hop,Op.operands])) hX
 have hy:=Ai H.st (H.opn Y (by simp[hop,Op.operands])) hY
 cases hr:BK op u v with
 | none=>simp[hr,A3] at h
 | some r =>
   obtain ⟨z,w',h1,h2,h3⟩:=Nn (P:=C.P) (w:=w) (X:=X) (Y:=Y) H.ty hb hr hx hy
   rw[hr] at h
   refine BE H (Mj h3) (v:=z) ?_ (by simp[hop,AH]) h hfr (fun t ht=>by simp only[zS] at ht;rw[← ht];exact h2)
   simp only[execOp,hop]
   exact B5 h1
theorem PH (H:DT C o w a σ Lt cv fp) {op:UnOp} {xt:TypeId} {X:Operand} (hop:o.op = .unOp op xt X) {u:T}
  (hX:As C.E xt (AB σ.env X)=some u)
  {out:A9} (h:A3 o (Q5 op u)=some out) (hfr:Av o σ out.ups) :
  out.g=none∧AN C o a w ⟨Ae out.ups σ.env,σ.g⟩:=by
 have hx:=Ai H.st (H.opn X (by simp[hop,Op.operands])) hX
 cases hr:Q5 op u with
 | none=>simp[hr,A3] at h
 | some r =>
   obtain ⟨z,h1,h2⟩:=Ph (P:=C.P) (w:=w) hr hx
   rw[hr] at h
   refine BE H (Ab.refl _ _) (v:=z) ?_ (by simp[hop,AH]) h hfr (fun t ht=>by simp only[zS] at ht;rw[← ht];exact h2)
   simp only[execOp,hop]
   exact B5 h1
theorem GD {g:Nat} {Fz:Nat→Prop} {fl:Fl} {el:List Pm} {n:Nat} {cs:List T} {v:Value} {f:Fp} (h:R w Fz Lt g [.sl fl el] [.lst n cs] [v] f) (hl:fl.live g=true) :
  (∃ ad cap,v = .slice ad n cap)∧((∃ ad cap,v = .slice ad 0 cap∧n=0∧cs=[]∧f=[]∧(fl = .own→ad=none∧cap=0)) ∨
    ∃ b off cap row e fr,v = .slice (some ⟨b,off,none⟩) n cap∧0<el.length∧w.heap[b]?=some (.cells row e fr)∧n≤cap∧off+n * el.length≤row.size ∧
     ∃ f1,R w Fz Lt g (rep n el) cs (seg row off (n * el.length)) f1∧(∀ x∈f1,x∈f) ∧
      ((fl ≠ .own∧f1=[]∧f=[])∨(fl = .own∧¬ Fz b∧(∀ j,off+n * el.length≤j→¬ Lt b j)∧off+cap * el.length≤row.size∧(0<cap→∀ j,off≤j→¬ (fr.1≤j∧j<fr.2)) ∧
        f=⟨b,off,off+n * el.length,off+n * el.length,off+cap * el.length⟩::f1))):=by
 cases h with
 | slE hf r =>
   cases r
   exact ⟨⟨_,_,rfl⟩,.inl ⟨_,_,rfl,rfl,rfl,rfl,hf⟩⟩
 | slS h0 hb hz hn hs hr hi r =>
   cases r
   subst hs
   exact ⟨⟨_,_,rfl⟩,.inr ⟨_,_,_,_,_,_,rfl,h0,hb,hn,hr,[],hi,by simp,.inl ⟨by simp,rfl,rfl⟩⟩⟩
 | slL h0 hb hlt hn hs hr hi r =>
   cases r
   subst hs
   exact ⟨⟨_,_,rfl⟩,.inr ⟨_,_,_,_,_,_,rfl,h0,hb,hn,hr,[],hi,by simp,.inl ⟨by simp,rfl,rfl⟩⟩⟩
 | slX hg r=>simp[Fl.live] at hl;omega
 | @slO b off n cap row e fr el cs vs' ps ts vs fp₁ fp₂ h0 hb hz hlt hn hs hr hf hi r =>
   cases r
   subst hs
   refine ⟨⟨_,_,rfl⟩,.inr ⟨_,_,_,_,_,_,rfl,h0,hb,hn,?_,fp₁,hi,by simp +contextual,.inr ⟨rfl,hz,hlt,hr,hf,by simp⟩⟩⟩
   have:=Nat.mul_le_mul_right el.length hn
   omega
theorem Bs {E:AX} (hE:Bw C.P E) {t n:Nat} (h:DE E t n=true):∃ e i,C.P.underlying t=some (.slice e)∧C.P.info? e=some i∧i.size=n:=by
 unfold DE at h
 split at h
 ·simp at h
 rename_i d hd
 split at h
 ·rename_i e hk
  split at h
  ·simp at h
  rename_i de hde
  obtain ⟨u,hu,hkd,-⟩:=(hE t d hd).und
  unfold FS at hkd
  rw[hk] at hkd
  obtain ⟨i,z,h1,h2,-⟩:=(hE e de hde).info
  exact ⟨e,i,by rw[hu,hkd.1],h1,by rw[h2];simpa using h⟩
 ·simp at h
theorem D4 {E:AX} (hE:Bw C.P E) {t:Nat} (h:Hj E t=true):C.P.underlying t=some .string:=by
 unfold Hj at h
 split at h
 ·simp at h
 rename_i d hd
 split at h
 ·rename_i hk
  obtain ⟨u,hu,hkd,-⟩:=(hE t d hd).und
  unfold FS at hkd
  rw[hk] at hkd
  rw[hu,hkd]
 ·simp at h
theorem Aa {v:Value} {vs:List Value} (h:AD false v vs):vs=[v]:=by simpa [AD] using h
theorem J2 {P:Program} {t:TypeId} {ty:TypeId} {s:ByteArray} (h:P.underlying t=some .string):(Builtin.len_ #[t] ty #[.string s]).run P w = .ok (goInt s.size) w:=by
 simp[Builtin.len_,run_underlying h]
theorem Jl {P:Program} {t e:TypeId} {ty:TypeId} {ad:Option Addr} {n c:Nat} (h:P.underlying t=some (.slice e)):(Builtin.len_ #[t] ty #[.slice ad n c]).run P w = .ok (goInt n) w:=by
 simp[Builtin.len_,run_underlying h]
theorem N8 (H:DT C o w a σ Lt cv fp) {X:Operand} {t ty:Nat} (hX:AT X) (hna:AH o.op=false)
  (hex:∀ v,(Builtin.len_ #[t] ty #[a.eval X]).run C.P w = .ok v w→(execOp a.eval o).run C.P w = .ok (.value v) w)
  {out:A9} (h:Nd C.E σ.g o t (AB σ.env X)=some out) (hfr:Av o σ out.ups) :
  out.g=none∧AN C o a w ⟨Ae out.ups σ.env,σ.g⟩:=by
 unfold Nd at h
 split at h
 ·rename_i s hv
  split at h
  ·rename_i hs
   obtain ⟨vs,f,h1,h2,-⟩:=Ag H.st hX hv
   obtain rfl:=Aa h1
   cases h2 with
   | leaf hl r =>
     simp only[AG] at hl
     refine BE H (Ab.refl _ _) (v:=goInt s.length) (hex _ ?_) hna h hfr (fun t ht => ?_)
     ·rw[hl,J2 (D4 H.ty hs)];rfl
     ·simp only[zS] at ht;rw[← ht];rfl
  ·simp at h
 ·rename_i fl el n cs hv
  split at h
  ·rename_i hs
   obtain ⟨vs,f,h1,h2,-⟩:=Ag H.st hX hv
   obtain rfl:=Aa h1
   obtain ⟨⟨ad,cap,hva⟩,-⟩:=GD h2 hs.2
   obtain ⟨e,i,k1,k2,k3⟩:=Bs H.ty hs.1
   refine BE H (Ab.refl _ _) (v:=goInt n) (hex _ ?_) hna h hfr (fun t ht => ?_)
   ·rw[hva,Jl k1]
   ·simp only[zS] at ht;rw[← ht];rfl
  ·simp at h
 ·simp at h
theorem Hx (H:BY C w a σ Lt cv fp):∀ {tys:List Nat} {xs:List Operand} {ts:List T},(∀ x∈xs,AT x)→leaves C.E tys (xs.map (AB σ.env))=some ts →
  ts.length=xs.length∧∀ (i:Nat) (t:T) (v:Value),ts[i]?=some t→(xs.map a.eval)[i]?=some v→AG t v
 | [],[],ts,_,h=>by simp[leaves] at h;subst h;simp
 | ty::tys,x::xs,ts,hx,h=>by
   simp only[map_cons,leaves] at h
   cases hr:As C.E ty (AB σ.env x) with
   | none=>simp[hr] at h
   | some t =>
     cases hl:leaves C.E tys (xs.map (AB σ.env)) with
     | none=>simp[hr,hl] at h
     | some ts' =>
       simp only[hr,hl,zS] at h
       subst h
       obtain ⟨h1,h2⟩:=Hx H (fun y hy=>hx y (by simp[hy])) hl
       refine ⟨by simp[h1],fun i t' v ht hv => ?_⟩
       cases i with
       | zero =>
         simp at ht hv
         subst ht hv
         exact Ai H (hx x (by simp)) hr
       | succ i=>exact h2 i t' v (by simpa using ht) (by simpa using hv)
 | [],_::_,_,_,h=>by simp[leaves] at h
 | _::_,[],_,_,h=>by simp[leaves] at h
theorem Ia (H:DT C o w a σ Lt cv fp) {m:Bool} {xs:List Operand} {tys:List Nat} {t:T} {ts:List T} (hX:∀ x∈xs,AT x) (hna:AH o.op=false)
  (hex:∀ x rest v w',xs.map a.eval=x::rest→(rest.foldlM (if m then Builtin.max2 else Builtin.min2) x).run C.P w = .ok v w'→(execOp a.eval o).run C.P w = .ok (.value v) w')
  (hl:leaves C.E tys (xs.map (AB σ.env))=some (t::ts))
  {out:A9} (h:A3 o (Ct m t ts)=some out) (hfr:Av o σ out.ups) :
  out.g=none∧AN C o a w ⟨Ae out.ups σ.env,σ.g⟩:=by
 obtain ⟨h1,h2⟩:=Hx H.st hX hl
 cases hr:Ct m t ts with
 | none=>simp[hr,A3] at h
 | some r =>
   cases xs with
   | nil=>simp at h1
   | cons x xs =>
     obtain ⟨z,w',k1,k2,k3⟩:=Gg (P:=C.P) (w:=w) (xs:=xs.map a.eval) hr (h2 0 t (a.eval x) rfl rfl) (by simp at h1;simp[h1])
      (fun i t' v ht hv=>h2 (i+1) t' v (by simpa using ht) (by simpa using hv))
     rw[hr] at h
     exact BE H k3 (hex _ _ z w' rfl k1) hna h hfr (fun t ht=>by simp only[zS] at ht;rw[← ht];exact k2)
theorem MI (H:DT C o w a σ Lt cv fp) {X I:Operand} {t:TypeId} (hop:o.op = .index t X I)
  {out:A9} (h:Hp C.E o t (AB σ.env X) (AB σ.env I) 0=some out) (hfr:Av o σ out.ups) :
  out.g=none∧AN C o a w ⟨Ae out.ups σ.env,σ.g⟩:=by
 unfold Hp at h
 split at h
 ·rename_i k i hi
  split at h
  ·rename_i s hs
   split at h
   ·rename_i hc
    have h1:=Ai H.st (H.opn I (by simp[hop,Op.operands])) hi
    have h2:=Ai H.st (H.opn X (by simp[hop,Op.operands])) hs
    simp only[AG] at h1 h2
    cases hb:s[i.toNat]? with
    | none=>simp[hb,A3] at h
    | some b =>
      rw[hb] at h
      refine BE H (Ab.refl _ _) (v:=.int .u8 b.toNat) ?_ (by simp[hop,AH]) h hfr (fun t ht=>by simp only[zS] at ht;rw[← ht];rfl)
      simp only[execOp,hop]
      refine B5 ?_
      have hlt:i.toNat<s.length:=by
       rcases Nat.lt_or_ge i.toNat s.length with h' | h'
       ·exact h'
       ·simp[List.getElem?_eq_none h'] at hb
      have hbb:(⟨⟨s⟩⟩:ByteArray)[i.toNat]?=some b:=by
       rw[getElem?_pos _ _ (by simpa [ByteArray.size] using hlt)]
       rw[List.getElem?_eq_getElem hlt] at hb
       exact hb
      simp[h1,h2,Instr.index,asIntOf,run_underlying (D4 H.ty hc.2),hc.1,hbb]
   ·simp at h
  ·simp at h
 ·simp at h
theorem Ls {E:AX} (hE:Bw C.P E) {t:Nat} (h:Ly E t=true):∃ u,C.P.underlying t=some u∧∀ e,u ≠ .slice e:=by
 unfold Ly at h
 split at h
 ·simp at h
 rename_i d hd
 obtain ⟨u,hu,hkd,-⟩:=(hE t d hd).und
 unfold FS at hkd
 refine ⟨u,hu,fun e he => ?_⟩
 subst he
 split at hkd <;>simp_all
theorem KY {E:AX} (hE:Bw C.P E) {t:Nat} (h:I8 E t=true):∃ e,C.P.underlying t=some (.slice e)∧C.P.underlying e=some (.int .u8):=by
 unfold I8 at h
 split at h
 ·simp at h
 rename_i d hd
 split at h
 ·rename_i e hk
  split at h
  ·simp at h
  rename_i de hde
  split at h
  ·rename_i hk2
   obtain ⟨u,hu,hkd,-⟩:=(hE t d hd).und
   obtain ⟨u2,hu2,hkd2,-⟩:=(hE e de hde).und
   unfold FS at hkd hkd2
   rw[hk] at hkd
   rw[hk2] at hkd2
   exact ⟨e,by rw[hu,hkd.1],by rw[hu2,hkd2]⟩
  ·simp at h
 ·simp at h
theorem JV (H:DT C o w a σ Lt cv fp) {X:Operand} {src dst:TypeId} (hop:o.op = .convert src dst X)
  {out:A9} (h:Ed C.E σ.g o src dst (AB σ.env X)=some out) (hfr:Av o σ out.ups) :
  out.g=none∧AN C o a w ⟨Ae out.ups σ.env,σ.g⟩:=by
 have hX:AT X:=H.opn X (by simp[hop,Op.operands])
 unfold Ed at h
 split at h
 ·simp at h
 rename_i d hd
 obtain ⟨ud,hud,hkd,-⟩:=(H.ty dst d hd).und
 split at h
 ·rename_i u hv
  split at h
  ·rename_i hlt
   obtain ⟨vs,f,h1,h2,-⟩:=Ag H.st hX hv
   obtain rfl:=Aa h1
   cases h2 with
   | leaf hl r =>
     cases hr:Ib d.kd u with
     | none=>simp[hr,A3] at h
     | some r =>
       obtain ⟨us,k1,k2⟩:=Ls H.ty hlt
       obtain ⟨z,w',e1,e2,e3⟩:=Mw (P:=C.P) (w:=w) k1 k2 ⟨ud,hud,hkd⟩ hr hl
       rw[hr] at h
       refine BE H (Mj e3) (v:=z) ?_ (by simp[hop,AH]) h hfr (fun t ht=>by simp only[zS] at ht;rw[← ht];exact e2)
       simp only[execOp,hop]
       exact B5 e1
  ·simp at h
 ·rename_i fl n cs hv
  split at h
  ·rename_i hlt
   split at h
   ·rename_i hk
    split at h
    ·simp at h
    rename_i bs hbs
    simp only[zB] at hlt
    obtain ⟨vs,f,h1,h2,-⟩:=Ag H.st hX hv
    obtain rfl:=Aa h1
    obtain ⟨e,k1,k2⟩:=KY H.ty hlt.1
    unfold FS at hkd
    rw[hk] at hkd
    subst hkd
    refine BE H (Ab.refl _ _) (v:=.string ⟨⟨bs⟩⟩) ?_ (by simp[hop,AH]) h hfr (fun t ht=>by simp only[zS] at ht;rw[← ht];rfl)
    simp only[execOp,hop]
    refine B5 ?_
    obtain ⟨⟨ad,cap,hva⟩,hrow⟩:=GD h2 hlt.2
    have hconv:(convert src dst (a.eval X)).run C.P w=(Conv.bytesToString (a.eval X)).run C.P w:=by
     rw[hva]
     cases ad <;>simp[convert,run_underlying k1,run_underlying hud,run_underlying k2]
    rw[hconv]
    rcases hrow with ⟨ad',cap',hv',rfl,rfl,-,hne⟩ | ⟨b,off,cap',row,ety,fr,hv',h0,hb,-,hsz,f1,hR,-,-⟩
    ·simp only[Cb,zS] at hbs
     subst hbs
     rw[hv']
     cases ad' with
     | none=>simp[Conv.bytesToString];rfl
     | some ad =>
       simp[Conv.bytesToString,loadCells,loadCellsFrom];rfl
    ·rw[hv']
     simp only[length_singleton,Nat.mul_one] at hR hsz
     obtain ⟨c1,c2⟩:=HV hbs hR
     rw[Hg hb hsz c1,c2]
   ·simp at h
  ·simp at h
 ·simp at h
end
section
variable {C:BU} {w w':World} {a a':Act} {σ:AS} {Lt Lt':Nat→Nat→Prop} {cv cv':Nat→Value} {fp fpU:Nat→Fp} {g':Nat} {env':List (Nat × AA)} {o:Oper}
theorem O5 (path:List (Nat × Nat)):∀ {P V base el rv b off},(∀ b o,base=some (b,o)→∃ row e fr m,w.heap[b]?=some (.cells row e fr)∧V=seg row o m) →
  A8 w P V base path=some (el,rv,some (b,off))→∃ row e fr m,w.heap[b]?=some (.cells row e fr)∧rv=seg row off m:=by
 induction path with
 | nil =>
   intro P V base el rv b off h hc
   simp only[A8,zS,zP] at hc
   obtain ⟨rfl,rfl,rfl⟩:=hc
   exact h b off rfl
 | cons ec path ih =>
   obtain ⟨e,c⟩:=ec
   intro P V base el rv b off h hc
   simp only[A8] at hc
   split at hc <;>try simp at hc
   split at hc <;>try simp at hc
   split at hc <;>try simp at hc
   rename_i b1 off1 n1 _ _ _ row1 e1 fr1 hb
   exact ih (fun b' o' hbo=>by
    simp only[zS,zP] at hbo
    obtain ⟨rfl,rfl⟩:=hbo
    exact ⟨row1,e1,fr1,_,hb,rfl⟩) hc
theorem Kp {v:Value} {s:AA} {vs0:List Value} {base0:Option (Nat × Nat)} {path:List (Nat × Nat)} {P el rv b off} (h:AY w v s vs0 base0)
  (hc:A8 w P vs0 base0 path=some (el,rv,some (b,off))):∃ row e fr m,w.heap[b]?=some (.cells row e fr)∧rv=seg row off m:=by
 refine O5 path (fun b' o' hb => ?_) hc
 cases s with
 | val=>simp only[AY] at h;rw[h.2] at hb;simp at hb
 | box p cs d pin =>
   obtain ⟨b1,off1,row,e,fr,-,h2,h3,h4⟩:=h
   rw[h4] at hb
   obtain ⟨rfl,rfl⟩:b1=b'∧off1=o' :=by simpa using hb
   exact ⟨row,e,fr,_,h2,h3⟩
 | _=>exact h.elim
theorem Jd:∀ (path:List (Nat × Nat)) {ps:List Pm} {cs:List T} {el:List Pm} {rcs:List T} {e c:Nat} {q:List Pm} {n:Nat} {cs':List T},rowAt ps cs path=some (el,rcs)→el[c]?=some (.sl .own q)→rcs[ix el.length e c]?=some (.lst n cs') →
  (rowAt ps cs (path++[(e,c)])).isSome=true
 | [],ps,cs,el,rcs,e,c,q,n,cs',h,h1,h2=>by
   simp only[rowAt,zS,zP] at h
   obtain ⟨rfl,rfl⟩:=h
   simp[rowAt,h1,h2]
 | (e1,c1)::path,ps,cs,el,rcs,e,c,q,n,cs',h,h1,h2=>by
   simp only[rowAt,cons_append] at h ⊢
   split at h
   ·split at h
    ·exact Jd path h h1 h2
    ·simp at h
   ·simp at h
theorem PA (path:List (Nat × Nat)):∀ {P V base el rv b1} (ec:Nat × Nat),A8 w P V base path=some (el,rv,b1) →
  A8 w P V base (path++[ec])=A8 w el rv b1 [ec]:=by
 induction path with
 | nil =>
   intro P V base el rv b1 ec h
   simp only[A8,zS,zP] at h
   obtain ⟨rfl,rfl,rfl⟩:=h
   rfl
 | cons ec1 path ih =>
   obtain ⟨e,c⟩:=ec1
   intro P V base el rv b1 ec h
   simp only[cons_append]
   rw[A8] at h ⊢
   split at h <;>try simp at h
   split at h <;>try simp at h
   split at h <;>try simp at h
   simp_all
   exact ih _ _ h
theorem Bf {row:Array Value} {o n i m:Nat} (h:i+m≤n):((seg row o n).drop i).take m=seg row (o+i) m:=by
 apply List.ext_getElem?
 intro j
 rw[List.getElem?_take,List.getElem?_drop,seg_getElem?,seg_getElem?]
 split
 ·rw[if_pos (by omega),Nat.add_assoc]
 ·rfl
theorem JH {row:Array Value} {o n i m:Nat} (h:(((seg row o n).drop i).take m).length=m) (hm:0<m):i+m≤n∧o+i+m≤row.size:=by
 simp only[seg,length_take,List.length_drop,Array.length_toList] at h
 omega
theorem GN.one {P:Program} {E:AX} {t:Nat} {d:TD} (h:GN P E t d) (ha:d.agg=false):d.sz=1:=by
 obtain ⟨i,z,h1,h2,h3,h4,h5,h6⟩:=h.info
 rw[ha] at h6
 simp only[Bool.false_eq_true,if_false] at h6
 rw[h6] at h5
 have hl:=h.len
 have:d.zero.length=1:=by
  simp only[Ck] at h5
  split at h5 <;>simp at h5
  rw[← h5];rfl
 have hf:=(A2 (w:=default) (Fz:=fun _=>False) (Lt:=fun _ _=>False) (g:=0) (vs:=z.cells.toList) (by rw[h6];exact h5) h.fit).length_eq
 omega
theorem Es {P:Program} {E:AX} {t:Nat} {d:TD} (h:GN P E t d):(sizeOf t).run P w = .ok d.sz w:=by
 obtain ⟨i,z,h1,h2,-⟩:=h.info
 simp[sizeOf,typeInfo,h1,h2]
theorem GI {P:Program} {E:AX} {t:Nat} {d:TD} (h:GN P E t d):(isAgg t).run P w = .ok d.agg w:=by
 obtain ⟨u,hu,-,h2⟩:=h.und
 simp only[isAgg,Sem.run_bind,run_underlying hu,Result.andThen_ok]
 cases u <;>simp[DM] at h2 <;>simp[← h2]
theorem Fs {P:Program} {E:AX} {t:Nat} {d:TD} (h:GN P E t d) {b off:Nat} {row:Array Value} {e:TypeId} {fr:Nat × Nat} (hb:w.heap[b]?=some (.cells row e fr)) (hr:off+d.sz≤row.size) :
  ∃ v,(loadVar t ⟨b,off,none⟩).run P w = .ok v w∧AD d.agg v (seg row off d.sz):=by
 cases ha:d.agg with
 | true =>
   refine ⟨.agg (seg row off d.sz).toArray,?_,by simp[AD]⟩
   simp[loadVar,GI h,ha,Es h,EE hb hr]
 | false =>
   have h1:=h.one ha
   have hlt:off<row.size:=by omega
   refine ⟨row[off],?_,?_⟩
   ·simp[loadVar,GI h,ha,MJ hb,hlt]
   ·rw[h1,KG hlt]
    simp[AD,seg]
theorem NR (H:DT C o w a σ Lt cv fp) {X:Operand} {t:TypeId} (hop:o.op = .load t X)
  {out:A9} (h:EB C.E o t (AB σ.env X)=some out) (hfr:Av o σ out.ups) :
  out.g=none∧AN C o a w ⟨Ae out.ups σ.env,σ.g⟩:=by
 have hX:AT X:=H.opn X (by simp[hop,Op.operands])
 have hna:AH o.op=false:=by simp[hop,AH]
 unfold EB at h
 split at h
 ·simp at h
 rename_i d hd
 have hT:=H.ty t d hd
 have hpos:=hT.pos
 split at h
 ·rename_i k pl root hp
  obtain ⟨rfl,hk,p,cs,dd,hroot,hseen,vs0,base0,el,rv,b,off,hrv,hcr,hev⟩:=D9 H.st hX hp
  simp only[hroot] at h
  split at h
  ·simp at h
  rename_i v hv
  have hTok:(rowAt p cs pl.path).isSome=true:=by
   unfold Desk.atPlace at hv
   split at hv
   ·simp at hv
   ·rename_i h9
    have h9:rowAt p cs pl.path=some _:=h9
    rw[h9];rfl
  obtain ⟨vs1,base1,j1,j2⟩:=(H.st.slots k).atPlace (H.st.nodup k) hroot hv
  obtain ⟨rfl,rfl⟩:=hrv.uniq j1
  obtain ⟨f',-,hR⟩:=j2 el rv _ hcr
  obtain ⟨row,e,fr,m,hb,rfl⟩:=Kp hrv hcr
  have hvl:v.p.length=d.sz:=by
   unfold Desk.atPlace at hv
   split at hv <;>try simp at hv
   split at hv <;>try simp at hv
   rename_i hg
   split at hv <;>simp at hv
   rw[← hv];exact (An hg).2.1
  have hva:v.agg=d.agg:=by
   unfold Desk.atPlace at hv
   split at hv <;>try simp at hv
   split at hv <;>try simp at hv
   split at hv <;>simp at hv
   rw[← hv]
  simp only[Desk.pick] at hR
  have hlen:=hR.length_eq.2
  rw[hvl] at hlen
  obtain ⟨q1,q2⟩:=JH hlen hpos
  rw[Bf q1] at hR
  obtain ⟨x,hx1,hx2⟩:=Fs (P:=C.P) hT hb q2
  have hex:(execOp a.eval o).run C.P w = .ok (.value x) w:=by
   simp only[execOp,hop]
   refine B5 ?_
   rw[hev]
   simpa [Instr.loadAt,Instr.sureAddr] using hx1
  split at h
  ·rename_i hn
   simp only[zS] at h
   subst h
   have:=hR.noOwn hn
   rw[this] at hR
   exact ⟨rfl,AN.val H.df H.st (Ab.refl _ _) hex H.dst hfr hna (by rw[hva];exact hx2) hR⟩
  ·simp only[zS] at h
   subst h
   refine ⟨rfl,AN.one H.df H.st (Ab.refl _ _) hex H.dst hfr hna (fun d' _ hd'=>⟨rfl,?_⟩) ?_ (.inl trivial)⟩
   ·simp only[AA.looks,mem_singleton] at hd'
    simp only[BM,if_neg hd',if_neg (fun e=>hd' e.symm:¬ k=d'),if_true]
    intro P CS D hr hst
    rw[hroot] at hr
    simp only[zS,zP] at hr
    obtain ⟨rfl,rfl,rfl⟩:=hr
    refine ⟨vs0,base0,el,_,_,hrv,hcr,?_,hTok⟩
    simp only[Desk.pick]
    rw[Bf q1]
    exact hx2
   ·simp only[AA.looks,mem_singleton,forall_eq]
    refine ⟨hk,?_⟩
    cases hgk:AE σ.env k with
    | val=>rw[hgk] at hseen;exact hseen ⟨_,_,_,_,_,rfl⟩
    | box=>trivial
    | _=>rw[hgk] at hroot;simp[AA.root] at hroot
 ·rename_i hp
  split at h
  ·rename_i t' el cs dd pin s1 hr
   split at h
   ·simp at h
   rename_i p hgp
   split at h
   ·simp at h
   rename_i c hgc
   simp only[zS] at h
   subst h
   have hv:AV C.E 0 (AB σ.env X)=some ⟨false,[.rf .shr el],[.ref cs]⟩:=by rw[hr];rfl
   obtain ⟨vs,f,h1,h2,-⟩:=Ag H.st hX hv
   obtain rfl:=Aa h1
   generalize hev:a.eval X=x at h2
   cases h2 with
   | @rfS b off row e fr _ _ vs' _ _ _ _ h0 hb hz hs hsz hi r =>
     have hi':R w C.Fz Lt σ.g (rep 1 el) cs vs' []:=by rw[BI];exact hi
     have e0:ix el.length 0 0=0:=HL _
     obtain ⟨f',hf',hR⟩:=hi'.sub (e:=0) hgp (by rw[e0];exact hgc)
     have:f'=[]:=by
      cases f' with
      | nil=>rfl
      | cons y ys=>exact absurd (hf' y (by simp)) (by simp)
     subst this
     rw[e0] at hR
     subst hs
     have hlen:=hR.length_eq.2
     rw[(An hgp).2.1] at hlen
     obtain ⟨q1,q2⟩:=JH hlen hpos
     rw[Bf q1] at hR
     obtain ⟨x,hx1,hx2⟩:=Fs (P:=C.P) hT hb q2
     refine ⟨rfl,AN.val H.df H.st (Ab.refl _ _) (v:=x) ?_ H.dst hfr hna hx2 hR⟩
     simp only[execOp,hop]
     refine B5 ?_
     rw[hev]
     simpa [Instr.loadAt,Instr.sureAddr] using hx1
  ·simp at h
theorem Mv {P:Program} {E:AX} {s:Nat} {d:TD} (h:GN P E s d) {fs:List (Nat × Nat)} (hk:d.kd = .st fs) {f off ty:Nat} (hf:fs[f]?=some (off,ty)) :
  ∃ fields:Array Field,P.underlying s=some (.struct fields)∧∃ fld:Field,fields[f]?=some fld∧fld.offset=off∧fld.type=ty:=by
 obtain ⟨u,hu,hkd,-⟩:=h.und
 unfold FS at hkd
 rw[hk] at hkd
 obtain ⟨fields,rfl,hfs⟩:=hkd
 refine ⟨fields,hu,?_⟩
 rw[← hfs,List.getElem?_map] at hf
 rw[Array.getElem?_toList] at hf
 cases hx:fields[f]? with
 | none=>simp[hx] at hf
 | some fld=>simp[hx] at hf;exact ⟨fld,rfl,hf⟩
theorem QJ {P:Program} {E:AX} {t:Nat} {d:TD} (h:GN P E t d) {cs:List Value} {off:Nat} (hl:off+d.sz≤cs.length) :
  ∃ v,(part t cs.toArray off).run P w = .ok v w∧AD d.agg v ((cs.drop off).take d.sz):=by
 cases ha:d.agg with
 | true =>
   refine ⟨.agg (cs.toArray.extract off (off+d.sz)),?_,?_⟩
   ·simp[part,GI h,ha,Es h]
   ·simp[AD]
 | false =>
   have h1:=h.one ha
   have hlt:off<cs.length:=by omega
   refine ⟨cs[off],?_,?_⟩
   ·simp[part,GI h,ha,hlt]
   ·rw[h1,drop_eq_getElem_cons hlt,take_succ_cons,take_zero]
    simp[AD]
theorem If {ps:List Pm}:∀ {n c:Nat} {q:List Pm},BO ps c n=some q→noOwns ps=true→noOwns q=true
 | 0,c,q,h,_=>by simp[BO] at h;subst h;rfl
 | n+1,c,q,h,hn=>by
   simp only[BO] at h
   cases hp:ps[c]? with
   | none=>simp[hp] at h
   | some p =>
     cases hr:BO ps (c+1) n with
     | none=>simp[hp,hr] at h
     | some r =>
       simp only[hp,hr,zS] at h
       subst h
       simp only[noOwns,zB]
       refine ⟨?_,If hr hn⟩
       rw[Bp hp,EK,EK] at hn
       simp[noOwns] at hn
       exact hn.2.1
theorem Dl {w:World} (path:List (Nat × Nat)):∀ {P:List Pm} {T:List T} {V:List Value} {base el el' rcs rv b1},rowAt P T path=some (el,rcs)→A8 w P V base path=some (el',rv,b1)→el=el' :=by
 induction path with
 | nil =>
   intro P T V base el el' rcs rv b1 h h'
   simp only[rowAt,A8,zS,zP] at h h'
   rw[← h.1,← h'.1]
 | cons ec path ih =>
   obtain ⟨e,c⟩:=ec
   intro P T V base el el' rcs rv b1 h h'
   rw[rowAt] at h
   rw[A8] at h'
   split at h <;>try simp at h
   rename_i el1 hP
   split at h <;>try simp at h
   rw[hP] at h'
   simp only at h'
   split at h' <;>try simp at h'
   split at h' <;>try simp at h'
   exact ih h h'
theorem Ac {ps:List Pm} {cs:List T} {pl:AO} {v:V} (h:atPlace ps cs pl=some v) :
  ∃ el rcs,rowAt ps cs pl.path=some (el,rcs)∧BO el pl.c pl.n=some v.p∧CG rcs (ix el.length pl.e pl.c) pl.n=some v.cs∧v.agg=pl.agg:=by
 unfold atPlace at h
 split at h
 ·simp at h
 rename_i el rcs h1
 split at h
 ·simp at h
 rename_i q h2
 split at h
 ·simp at h
 rename_i c h3
 simp only[zS] at h
 subst h
 exact ⟨el,rcs,h1,h2,h3,rfl⟩
theorem MT (H:DT C o w a σ Lt cv fp) {X:Operand} {s:TypeId} {fi:Nat} (hop:o.op = .field s X fi)
  {out:A9} (h:Ez C.E o s (AB σ.env X) fi=some out) (hfr:Av o σ out.ups) :
  out.g=none∧AN C o a w ⟨Ae out.ups σ.env,σ.g⟩:=by
 have hX:AT X:=H.opn X (by simp[hop,Op.operands])
 have hna:AH o.op=false:=by simp[hop,AH]
 unfold Ez at h
 split at h
 ·simp at h
 rename_i d hd
 split at h
 ·rename_i fs hk
  split at h
  ·simp at h
  rename_i off ty hf
  split at h
  ·simp at h
  rename_i d' hd'
  have hT:=H.ty ty d' hd'
  have hpos:=hT.pos
  split at h
  ·simp at h
  rename_i v hv
  split at h
  ·simp at h
  rename_i hagg
  simp only[Bool.not_eq_true,Bool.not_eq_false'] at hagg
  split at h
  ·simp at h
  rename_i p hgp
  split at h
  ·simp at h
  rename_i c hgc
  obtain ⟨vs,f0,h1,h2,-⟩:=Ag H.st hX hv
  rw[hagg] at h1
  simp only[AD,if_true] at h1
  have hi':R w C.Fz Lt σ.g (rep 1 v.p) v.cs vs f0:=by rw[BI];exact h2
  have hoff:off<v.p.length:=by
   have:=(An hgp).2.2 hpos;omega
  have e0:ix v.p.length 0 off=off:=by rw[KQ hoff];simp
  obtain ⟨f',hf',hR⟩:=hi'.sub (e:=0) hgp (by rw[e0];exact hgc)
  rw[e0] at hR
  have hlen:off+d'.sz≤vs.length:=by
   have:=(An hgp).2.2 hpos
   rw[h2.length_eq.2];exact this
  obtain ⟨x,hx1,hx2⟩:=QJ (P:=C.P) (w:=w) hT hlen
  obtain ⟨fields,g1,fld,g2,g3,g4⟩:=Mv (H.ty s d hd) hk hf
  have hex:(execOp a.eval o).run C.P w = .ok (.value x) w:=by
   simp only[execOp,hop]
   refine B5 ?_
   rw[h1]
   simp[Instr.field,run_underlying g1,g2,asAgg,g3,g4,hx1]
  split at h
  ·rename_i hn
   simp only[zS] at h
   subst h
   have:=hR.noOwn hn
   rw[this] at hR
   exact ⟨rfl,AN.val H.df H.st (Ab.refl _ _) hex H.dst hfr hna hx2 hR⟩
  ·rename_i hn
   cases X with
   | const cc =>
     simp[AB] at h
   | global=>simp[AB] at h
   | func=>simp[AB] at h
   | tmp t =>
     rw[AJ] at h hv
     have hs:=H.st.slots t
     rw[Ay H.st hX] at h1
     cases hg:AE σ.env t with
     | val ag p0 cs0 d0 pin =>
       simp only[hg,zS] at h hv
       subst h
       simp only[AV,zS] at hv
       subst hv
       refine ⟨rfl,AN.one H.df H.st (Ab.refl _ _) hex H.dst hfr hna (fun d1 _ hd1=>⟨rfl,?_⟩) ?_ (.inl trivial)⟩
       ·simp only[AA.looks,mem_singleton] at hd1
        simp only[BM,if_neg hd1,if_neg (fun e=>hd1 e.symm:¬ t=d1),if_true,hg]
        intro P CS D hr hst
        simp only[AA.root,zS,zP] at hr
        obtain ⟨rfl,rfl,rfl⟩:=hr
        simp only at hagg
        refine ⟨vs,none,_,vs,none,⟨by rw[hagg];simpa [AD] using h1,rfl⟩,rfl,?_,rfl⟩
        simp only[Desk.pick]
        rw[e0];exact hx2
       ·simp only[AA.looks,mem_singleton,forall_eq]
        refine ⟨hX,?_⟩
        rw[hg]
        have:noOwns p0=false:=by
         cases hnn:noOwns p0 with
         | false=>rfl
         | true=>exact absurd (If hgp hnn) hn
        cases d0 <;>simp[AI,this]
     | view k pl =>
       simp only[hg,zS] at h hv
       subst h
       simp only[AV] at hv
       cases hroot:(AE σ.env k).root with
       | none=>simp[hroot] at hv
       | some pcd =>
         obtain ⟨P0,CS0,D0⟩:=pcd
         simp only[hroot] at hv
         split at hv
         ·simp at hv
         rename_i hst
         obtain ⟨el',rcs,a1,a2,a3,a4⟩:=Ac hv
         rw[hg] at hs
         obtain ⟨vs0,base0,el,rv,base,k1,k2,k3,hTok⟩:=hs.2 P0 CS0 D0 hroot (by simpa using hst)
         obtain rfl:=Dl _ a1 k2
         refine ⟨rfl,AN.one H.df H.st (Ab.refl _ _) hex H.dst hfr hna (fun d1 _ hd1=>⟨rfl,?_⟩) ?_ (.inl trivial)⟩
         ·simp only[AA.looks,mem_singleton] at hd1
          simp only[BM,if_neg hd1,if_neg (fun e=>hd1 e.symm:¬ k=d1),if_true]
          intro P CS D hr hst'
          rw[hroot] at hr
          simp only[zS,zP] at hr
          obtain ⟨rfl,rfl,rfl⟩:=hr
          refine ⟨vs0,base0,el',rv,base,k1,k2,?_,hTok⟩
          rw[← a4,hagg] at k3
          simp only[AD,if_true] at k3
          rw[h1] at k3
          have hvs:vs=Desk.pick rv el' pl:=by simpa using k3
          have l1:=(An hgp).2.2 hpos
          have l2:=(An a2).2.1
          have l3:=(An a2).2.2 (by omega)
          simp only[Desk.pick] at hvs ⊢
          rw[KQ (by omega)] at hvs ⊢
          rw[hvs] at hx2
          rw[List.drop_take,drop_drop,List.take_take] at hx2
          have:min d'.sz (pl.n - off)=d'.sz:=by omega
          rw[this] at hx2
          rw[show pl.e * el'.length+(pl.c+off)=pl.e * el'.length+pl.c+off by omega]
          exact hx2
         ·simp only[AA.looks,mem_singleton,forall_eq]
          exact H.st.looks t k (by rw[hg];simp[AA.looks])
     | _=>simp[hg,AV] at hv
 ·simp at h
end
section
variable {C:BU} {w w':World} {a a':Act} {σ:AS} {Lt Lt':Nat→Nat→Prop} {cv cv':Nat→Value} {fp fpU:Nat→Fp} {g':Nat} {env':List (Nat × AA)} {o:Oper}
theorem DP {k:Nat} {p cs d} (hroot:(AE σ.env k).root=some (p,cs,d)) (hseen:(∃ ag p' c' d' pin,AE σ.env k = .val ag p' c' d' pin)→AI (AE σ.env k)):AI (AE σ.env k):=by
 cases hgk:AE σ.env k with
 | val=>rw[hgk] at hseen;exact hseen ⟨_,_,_,_,_,rfl⟩
 | box=>trivial
 | _=>rw[hgk] at hroot;simp[AA.root] at hroot
theorem AN.ptr {k:Nat} {pl:AO} {v:Value} (H:DT C o w a σ Lt cv fp) (hr:(execOp a.eval o).run C.P w = .ok (.value v) w) (hna:AH o.op=false)
  (hfr:Av o σ (AL o (.ptr k pl))) (hk:k<1000000) (hseen:AI (AE σ.env k)) (hp:Ld w (cv k) (AE σ.env k) pl v) :
  AN C o a w ⟨Ae (AL o (.ptr k pl)) σ.env,σ.g⟩:=by
 refine AN.one H.df H.st (Ab.refl _ _) hr H.dst hfr hna (fun d _ hd=>⟨rfl,?_⟩) (by simpa [AA.looks] using ⟨hk,hseen⟩) (.inl trivial)
 simp only[AA.looks,mem_singleton] at hd
 simp only[BM,if_neg hd,if_neg (fun e=>hd e.symm:¬ k=d),if_true]
 exact hp
theorem Ge:∀ {d:CE},Cj d=false→Bq d=false
 | [],_=>rfl
 | (q,c,m)::d,h=>by
   cases q with
   | nil=>simp[Cj] at h
   | cons=>exact Ge (d:=d) h
theorem Io {P:Program} {E:AX} {s:Nat} {d d':TD} (h:GN P E s d) {fs:List (Nat × Nat)} (hk:d.kd = .st fs) {f off ty:Nat} (hf:fs[f]?=some (off,ty)) (h':GN P E ty d') {b i:Nat} :
  (Instr.fieldAt s (.pointer (some ⟨b,i,none⟩)) f).run P w = .ok (.pointer (some ⟨b,i+off,none⟩)) w:=by
 obtain ⟨fields,g1,fld,g2,g3,g4⟩:=Mv h hk hf
 have hpos:=h'.pos
 have hne:¬ d'.sz=0:=by omega
 simp only[Instr.fieldAt,Sem.run_bind,run_underlying g1,Result.andThen_ok,g2,Instr.sureAddr,Sem.run_pure,fieldPlace,g4,Es h',hne,if_false,g3,Addr.add_lit]
theorem H8 (H:DT C o w a σ Lt cv fp) {X:Operand} {s:TypeId} {fi:Nat} (hop:o.op = .fieldAddr s X fi)
  {out:A9} (h:Bj C.E o s (AB σ.env X) fi=some out) (hfr:Av o σ out.ups) :
  out.g=none∧AN C o a w ⟨Ae out.ups σ.env,σ.g⟩:=by
 have hX:AT X:=H.opn X (by simp[hop,Op.operands])
 have hna:AH o.op=false:=by simp[hop,AH]
 unfold Bj at h
 split at h
 ·simp at h
 rename_i d hd
 split at h
 ·rename_i fs hk
  split at h
  ·simp at h
  rename_i off ty hf
  split at h
  ·simp at h
  rename_i d' hd'
  have hT:=H.ty ty d' hd'
  have hpos:=hT.pos
  split at h
  ·rename_i k pl root hp
   obtain ⟨rfl,hk',p,cs,dd,hroot,hseen,vs0,base0,el,rv,b,i,hrv,hcr,hev⟩:=D9 H.st hX hp
   simp only[hroot] at h
   split at h
   ·simp at h
   rename_i el' rcs hra
   have hTok:(rowAt p cs pl.path).isSome=true:=by rw[hra];rfl
   obtain rfl:=Dl _ hra hcr
   split at h
   ·rename_i hle
    simp only[zS] at h
    subst h
    refine ⟨rfl,AN.ptr H (v:=.pointer (some ⟨b,i+ix el'.length pl.e pl.c+off,none⟩)) ?_ hna hfr hk' (DP hroot hseen) ?_⟩
    ·simp only[execOp,hop]
     refine B5 ?_
     rw[hev]
     exact Io (H.ty s d hd) hk hf hT
    ·intro P CS D hr hst
     rw[hroot] at hr
     simp only[zS,zP] at hr
     obtain ⟨rfl,rfl,rfl⟩:=hr
     refine ⟨vs0,base0,el',rv,b,i,hrv,hcr,?_,hTok⟩
     simp only
     rw[KQ (by omega),KQ (by omega)]
     simp only[Value.pointer.injEq,zS,Addr.mk.injEq,and_true,true_and]
     omega
   ·simp at h
  ·split at h
   ·rename_i el cs dd pin s1 hr
    split at h
    ·simp at h
    rename_i p hgp
    split at h
    ·simp at h
    rename_i c hgc
    simp only[zS] at h
    subst h
    have hv:AV C.E 0 (AB σ.env X)=some ⟨false,[.rf .shr el],[.ref cs]⟩:=by rw[hr];rfl
    obtain ⟨vs,f,h1,h2,-⟩:=Ag H.st hX hv
    obtain rfl:=Aa h1
    generalize hev:a.eval X=x at h2
    cases h2 with
    | @rfS b i row e fr _ _ vs' _ _ _ _ h0 hb hz hs hsz hi r =>
      have hi':R w C.Fz Lt σ.g (rep 1 el) cs vs' []:=by rw[BI];exact hi
      have l1:=(An hgp).2.2 hpos
      have e0:ix el.length 0 off=off:=by rw[KQ (by omega)];simp
      obtain ⟨f',hf',hR⟩:=hi'.sub (e:=0) hgp (by rw[e0];exact hgc)
      have:f'=[]:=by
       cases f' with
       | nil=>rfl
       | cons y ys=>exact absurd (hf' y (by simp)) (by simp)
      subst this
      rw[e0] at hR
      subst hs
      have lp:=(An hgp).2.1
      rw[Bf (by omega)] at hR
      refine ⟨rfl,AN.val H.df H.st (Ab.refl _ _) (v:=.pointer (some ⟨b,i+off,none⟩)) ?_ H.dst hfr hna (vs:=[_]) (by simp[AD]) (R.rfS (off:=i+off) (row:=row) (by omega) hb hz (by rw[lp]) (by omega) hR .nil)⟩
      simp only[execOp,hop]
      refine B5 ?_
      rw[hev]
      exact Io (H.ty s d hd) hk hf hT
   ·simp at h
 ·simp at h
theorem Iy (H:DT C o w a σ Lt cv fp) {X:Operand} (hop:o.op = .nilCheck X)
  {out:A9} (h:G4 o (AB σ.env X)=some out) (hfr:Av o σ out.ups) :
  out.g=none∧AN C o a w ⟨Ae out.ups σ.env,σ.g⟩:=by
 have hX:AT X:=H.opn X (by simp[hop,Op.operands])
 have hna:AH o.op=false:=by simp[hop,AH]
 unfold G4 at h
 split at h
 ·rename_i k pl root hp
  obtain ⟨rfl,hk',p,cs,dd,hroot,hseen,vs0,base0,el,rv,b,i,hrv,hcr,hev,hTok⟩:=FC H.st hX hp
  simp only[zS] at h
  subst h
  refine ⟨rfl,AN.ptr H (v:=a.eval X) ?_ hna hfr hk' (DP hroot hseen) ?_⟩
  ·simp only[execOp,hop,hev];rfl
  ·intro P CS D hr hst
   rw[hroot] at hr
   simp only[zS,zP] at hr
   obtain ⟨rfl,rfl,rfl⟩:=hr
   exact ⟨vs0,base0,el,rv,b,i,hrv,hcr,hev,hTok⟩
 ·split at h
  ·rename_i el cs dd pin s1 hr
   simp only[zS] at h
   subst h
   have hv:AV C.E 0 (AB σ.env X)=some ⟨false,[.rf .shr el],[.ref cs]⟩:=by rw[hr];rfl
   obtain ⟨vs,f,h1,h2,-⟩:=Ag H.st hX hv
   obtain rfl:=Aa h1
   generalize hev:a.eval X=x at h2
   have h2' :=h2
   cases h2 with
   | @rfS b i row e fr _ _ vs' _ _ _ _ h0 hb hz hs hsz hi r =>
     cases r
     refine ⟨rfl,AN.val H.df H.st (Ab.refl _ _) (v:=.pointer (some ⟨b,i,none⟩)) ?_ H.dst hfr hna (vs:=[_]) (by simp[AD]) h2'⟩
     simp only[execOp,hop,hev];rfl
  ·simp at h
theorem Nb {P:Program} {t e:TypeId} {i:TypeInfo} (h1:P.underlying t=some (.slice e)) (h2:P.info? e=some i) {b off n cap j:Nat} {k:IntKind} {x:Int} (hj:x=j) (hlt:j<n) :
  (Instr.indexAt t (.slice (some ⟨b,off,none⟩) n cap) (.int k x)).run P w = .ok (.pointer (some ⟨b,off+j * i.size,none⟩)) w:=by
 subst hj
 have c:(0:Int)≤(j:Int)∧(j:Int)<(n:Int):=by omega
 simp[Instr.indexAt,asIntOf,run_underlying h1,sizeOf,typeInfo,h2,Addr.add_lit]
 intro hh
 omega
theorem K1 {m l n:Nat} {P:List Pm} (h:l+n≤m):((rep m P).drop (l * P.length)).take (n * P.length)=rep n P:=by
 obtain ⟨r,rfl⟩:=Nat.exists_eq_add_of_le h
 rw[Eu,Eu,append_assoc,List.drop_append_of_le_length (by rw[A6];exact Nat.le_refl _)]
 rw[show l * P.length=(rep l P).length by rw[A6],List.drop_length,nil_append]
 rw[List.take_append_of_le_length (by rw[A6];exact Nat.le_refl _)]
 rw[show n * P.length=(rep n P).length by rw[A6],take_length]
theorem Gk (n e:Nat):ix n e 0=e * n:=by
 unfold ix;split <;>simp
theorem IH (H:DT C o w a σ Lt cv fp) {X I:Operand} {t:TypeId} (hop:o.op = .indexAddr t X I)
  {out:A9} (h:C1 C.E σ.g o t (AB σ.env X) (AB σ.env I) 0=some out) (hfr:Av o σ out.ups) :
  out.g=none∧AN C o a w ⟨Ae out.ups σ.env,σ.g⟩:=by
 have hX:AT X:=H.opn X (by simp[hop,Op.operands])
 have hI:AT I:=H.opn I (by simp[hop,Op.operands])
 have hna:AH o.op=false:=by simp[hop,AH]
 unfold C1 at h
 split at h
 ·rename_i k i hi
  have hiv:=Ai H.st hI hi
  simp only[AG] at hiv
  split at h
  ·rename_i fl el n cs hv
   split at h
   ·rename_i hc
    obtain ⟨c1,c2,c3,c4⟩:=hc
    obtain ⟨e,inf,t1,t2,t3⟩:=Bs H.ty c3
    have hi':i=(i.toNat:Int):=by omega
    have hin:i.toNat<n:=by omega
    obtain ⟨vs,f,h1,h2,-⟩:=Ag H.st hX hv
    obtain rfl:=Aa h1
    have hsub:∀ {V:List Value} {f1},R w C.Fz Lt σ.g (rep n el) cs V f1→∀ c,CG cs (ix el.length i.toNat 0) el.length=some c→∃ f',(∀ x∈f',x∈f1)∧R w C.Fz Lt σ.g el c ((V.drop (i.toNat * el.length)).take el.length) f' :=by
     intro V f1 hR c hc
     have:=hR.sub (e:=i.toNat) (c:=0) (n:=el.length) (p:=el) (by
      have:∀ (ps qs:List Pm),BO (ps++qs) ps.length qs.length=some qs:=by
       intro ps qs
       induction qs generalizing ps with
       | nil=>rfl
       | cons q qs ih =>
         simp only[length_cons,BO]
         rw[List.getElem?_append_right (Nat.le_refl _)]
         simp only[Nat.sub_self,List.getElem?_cons_zero]
         have:=ih (ps++[q])
         simp only[append_assoc,List.singleton_append,length_append,length_singleton] at this
         rw[this]
      simpa using this [] el) hc
     rw[Gk] at this
     exact this
    have hexec:∀ {b off cap},a.eval X = .slice (some ⟨b,off,none⟩) n cap→(execOp a.eval o).run C.P w = .ok (.value (.pointer (some ⟨b,off+i.toNat * el.length,none⟩))) w:=by
     intro b off cap hev
     simp only[execOp,hop]
     refine B5 ?_
     rw[hev,hiv,← t3]
     exact Nb t1 t2 hi' hin
    cases fl with
    | own =>
      simp only at h
      have hpt:∀ k pl,AI (AE σ.env k)→k<1000000→(∀ P CS D,(AE σ.env k).root=some (P,CS,D)→BF D pl=false →
        ∃ vs0 base0 el1 rv base,AY w (cv k) (AE σ.env k) vs0 base0∧A8 w P vs0 base0 (pl.path)=some (el1,rv,base)∧el1[pl.c]?=some (.sl .own el)∧rv[ix el1.length pl.e pl.c]?=some (a.eval X)∧(rowAt P CS (pl.path++[(pl.e,pl.c)])).isSome=true) →
        Av o σ (AL o (.ptr k ⟨pl.path++[(pl.e,pl.c)],i.toNat,0,el.length,false⟩)) →
        AN C o a w ⟨Ae (AL o (.ptr k ⟨pl.path++[(pl.e,pl.c)],i.toNat,0,el.length,false⟩)) σ.env,σ.g⟩:=by
       intro k pl hs hk hr hfr
       obtain ⟨-,hrow⟩:=GD h2 c4
       rcases hrow with ⟨_,_,_,hn0,_⟩ | ⟨b,off,cap,row,ety,fr,hva,hl0,hb,-,-,-⟩
       ·omega
       refine AN.ptr H (hexec hva) hna hfr hk hs ?_
       intro P CS D hroot hst
       have hst':BF D pl=false:=by
        unfold BF at hst ⊢
        cases hpp:pl.path with
        | nil =>
          simp only[hpp,nil_append] at hst
          exact Ge hst
        | cons z zs =>
          simp only[hpp,cons_append] at hst
          cases zs with
          | nil =>
            simp only[nil_append] at hst
            cases D with
            | nil=>rfl
            | cons=>simp at hst
          | cons=>simp only[cons_append] at hst;exact hst
       obtain ⟨vs0,base0,el1,rv,base,r1,r2,r3,r4,r5⟩:=hr P CS D hroot hst'
       refine ⟨vs0,base0,el,seg row off (n * el.length),b,off,r1,?_,?_,r5⟩
       ·rw[PA _ _ r2]
        simp only[A8,r3,r4,hva,hb]
       ·simp[Gk]
      cases X with
      | const c=>simp[AB] at h
      | global=>simp[AB] at h
      | func=>simp[AB] at h
      | tmp tx =>
        rw[AJ] at h hv
        have hs:=H.st.slots tx
        rw[Ay H.st hX] at hpt h2
        cases hg:AE σ.env tx with
        | val ag p0 cs0 d0 pin =>
          simp only[hg,zS] at h hv
          subst h
          simp only[AV,zS,V.mk.injEq] at hv
          obtain ⟨rfl,rfl,rfl⟩:=hv
          refine ⟨rfl,hpt tx ⟨[],0,0,1,false⟩ ?_ hX ?_ hfr⟩
          ·rw[hg];cases d0 <;>simp[AI,noOwns,Pm.noOwn]
          ·intro P CS D hroot hst
           rw[hg] at hroot
           simp only[AA.root,zS,zP] at hroot
           obtain ⟨rfl,rfl,rfl⟩:=hroot
           refine ⟨[cv tx],none,_,_,none,?_,rfl,rfl,rfl,rfl⟩
           rw[hg];exact ⟨by simp[AD],rfl⟩
        | view k pl =>
          simp only[hg,zS] at h hv
          subst h
          simp only[AV] at hv
          cases hroot:(AE σ.env k).root with
          | none=>simp[hroot] at hv
          | some pcd =>
            obtain ⟨P0,CS0,D0⟩:=pcd
            simp only[hroot] at hv
            split at hv
            ·simp at hv
            rename_i hst0
            obtain ⟨el',rcs,a1,a2,a3,a4⟩:=Ac hv
            rw[hg] at hs
            have hlk:=H.st.looks tx k (by rw[hg];simp[AA.looks])
            refine ⟨rfl,hpt k pl hlk.2 hlk.1 ?_ hfr⟩
            intro P CS D hr hst
            rw[hroot] at hr
            simp only[zS,zP] at hr
            obtain ⟨rfl,rfl,rfl⟩:=hr
            obtain ⟨vs0,base0,el1,rv,base,k1,k2,k3,-⟩:=hs.2 P0 CS0 D0 hroot (by simpa using hst0)
            obtain rfl:=Dl _ a1 k2
            refine ⟨vs0,base0,el',rv,base,k1,k2,?_,?_,?_⟩
            ·obtain ⟨b1,b2,b3⟩:=An a2
             simp only[length_singleton] at b2
             rw[← b2] at b1
             have:=congrArg (fun l=>l[0]?) b1
             simpa [List.getElem?_take,List.getElem?_drop] using this.symm
            ·simp only at a4
             rw[← a4] at k3
             have k4:=Aa k3
             obtain ⟨-,b2,-⟩:=An a2
             simp only[length_singleton] at b2
             have:=congrArg (fun l=>l[0]?) k4
             simp only[Desk.pick,← b2] at this
             simpa [List.getElem?_take,List.getElem?_drop] using this
            ·obtain ⟨b1,b2,b3⟩:=An a2
             obtain ⟨c1,c2,-⟩:=Bh a3
             simp only[length_singleton] at b2 c2
             rw[← b2] at b1 c1
             have h1:=congrArg (fun l=>l[0]?) b1
             have h2:=congrArg (fun l=>l[0]?) c1
             exact Jd pl.path a1 (by simpa [List.getElem?_take,List.getElem?_drop] using h1.symm) (by simpa [List.getElem?_take,List.getElem?_drop] using h2.symm)
        | _=>simp[hg,AV] at hv
    | shr =>
      simp only at h
      split at h
      ·simp at h
      rename_i c hgc
      simp only[zS] at h
      subst h
      generalize hev:a.eval X=x at h2
      cases h2 with
      | slE hf r=>omega
      | @slS b off _ cap row ety fr _ _ vs' _ _ _ _ h0 hb hz hn hs hr hi2 r =>
        obtain ⟨f',hf',hR⟩:=hsub hi2 c hgc
        have:f'=[]:=by
         cases f' with
         | nil=>rfl
         | cons y ys=>exact absurd (hf' y (by simp)) (by simp)
        subst this
        subst hs
        have hm:i.toNat * el.length+el.length≤n * el.length:=by
         rw[← Nat.succ_mul];exact Nat.mul_le_mul_right _ hin
        rw[Bf hm] at hR
        exact ⟨rfl,AN.val H.df H.st (Ab.refl _ _) (hexec hev) H.dst hfr hna (vs:=[_]) (by simp[AD]) (.rfS h0 hb hz rfl (by omega) hR .nil)⟩
    | lent g1 =>
      simp only at h
      split at h
      ·simp at h
      rename_i c hgc
      simp only[zS] at h
      subst h
      generalize hev:a.eval X=x at h2
      cases h2 with
      | slE hf r=>omega
      | @slL b off _ cap row ety fr _ _ vs' _ _ _ _ h0 hb hlt hn hs hr hi2 r =>
        obtain ⟨f',hf',hR⟩:=hsub hi2 c hgc
        have:f'=[]:=by
         cases f' with
         | nil=>rfl
         | cons y ys=>exact absurd (hf' y (by simp)) (by simp)
        subst this
        subst hs
        have hm:i.toNat * el.length+el.length≤n * el.length:=by
         rw[← Nat.succ_mul];exact Nat.mul_le_mul_right _ hin
        rw[Bf hm] at hR
        exact ⟨rfl,AN.val H.df H.st (Ab.refl _ _) (hexec hev) H.dst hfr hna (vs:=[_]) (by simp[AD]) (.rfL h0 hb (fun j x y=>hlt j (by omega) (by omega)) rfl (by omega) hR .nil)⟩
      | slX hg r=>simp[Fl.live] at c4;omega
   ·simp at h
  ·simp at h
 ·simp at h
end
section
variable {C:BU} {w w':World} {a a':Act} {σ:AS} {Lt Lt':Nat→Nat→Prop} {cv cv':Nat→Value} {fp fpU:Nat→Fp} {g g':Nat} {env':List (Nat × AA)} {o:Oper} {Fz:Nat→Prop}
theorem R.feL {ps ts vs f} (h:R w Fz Lt g ps ts vs f):∀ x∈f,x.l=0∨x.l=x.hi:=by
 induction h with
 | nil=>simp
 | slO h0 hb hz hl hn hs hr hf hi _ ih1 ih2 =>
   intro f hf'
   simp only[cons_append,mem_cons,mem_append] at hf'
   rcases hf' with rfl | hf' | hf'
   ·exact .inr rfl
   ·exact ih1 f hf'
   ·exact ih2 f hf'
 | rfO h0 hb hz hl hs hr hf hi _ ih1 ih2 =>
   intro f hf'
   simp only[cons_append,mem_cons,mem_append] at hf'
   rcases hf' with rfl | hf' | hf'
   ·exact .inl rfl
   ·exact ih1 f hf'
   ·exact ih2 f hf'
 | leaf _ _ ih=>exact ih
 | dead _ ih=>exact ih
 | slE _ _ ih=>exact ih
 | slS _ _ _ _ _ _ _ _ _ ih=>exact ih
 | slL _ _ _ _ _ _ _ _ _ ih=>exact ih
 | slX _ _ ih=>exact ih
 | slH _ ih=>exact ih
 | rfS _ _ _ _ _ _ _ _ ih=>exact ih
 | rfL _ _ _ _ _ _ _ _ ih=>exact ih
 | rfX _ _ ih=>exact ih
 | mvE _ ih=>exact ih
 | mvX _ _ _ ih1 ih2 =>
   intro f hf'
   rcases mem_append.1 hf' with hf' | hf'
   ·exact ih1 f hf'
   ·exact ih2 f hf'
 | mvO _ _ _ _ _ _ _ ih1 ih2 =>
   intro f hf'
   rcases mem_append.1 hf' with hf' | hf'
   ·exact ih1 f hf'
   ·exact ih2 f hf'
 | bldN _ _ _ _ _ ih =>
   intro f hf'
   rcases mem_cons.1 hf' with rfl | hf'
   ·exact .inl rfl
   ·exact ih f hf'
 | bldO _ _ _ _ _ _ _ _ _ _ _ _ _ ih =>
   intro f hf'
   simp only[mem_cons] at hf'
   rcases hf' with rfl | rfl | hf'
   ·exact .inl rfl
   ·exact .inl rfl
   ·exact ih f hf'
 | fnv _ _ _ ih=>exact ih
theorem AR.feL {env:List (Nat × AA)} {k:Nat} {s:AA} {f:Fp} (h:AR C w Lt g cv env k f s) {x:Fe} (hx:x∈f):x.l=0∨x.l=x.hi:=by
 cases s with
 | val=>obtain ⟨vs,-,h2,-⟩:=h;exact h2.feL x hx
 | box=>exact h.1.feL x hx
 | dead=>simp only[AR] at h;subst h;simp at hx
 | gone=>simp only[AR] at h;subst h;simp at hx
 | _=>obtain ⟨rfl,-⟩:=h;simp at hx
def G1 (fp:Nat→Fp) (b j:Nat):Prop:=∃ k,∃ x∈fp k,x.b=b∧x.l≠0∧x.lo≤j∧j<x.hi
theorem Gw {f:Fp} (h:(f.map Fe.b).Nodup) {x y:Fe} (hx:x∈f) (hy:y∈f) (e:x.b=y.b):x=y:=by
 induction f with
 | nil=>simp at hx
 | cons z f ih =>
   simp only[map_cons,nodup_cons,mem_map,not_exists,not_and] at h
   rcases mem_cons.1 hx with rfl | hx' <;>rcases mem_cons.1 hy with rfl | hy'
   ·rfl
   ·exact absurd e.symm (h.1 y hy')
   ·exact absurd e (h.1 x hx')
   ·exact ih h.2 hx' hy'
theorem BY.same (h:BY C w a σ Lt cv fp) {j k:Nat} {x y:Fe} (hx:x∈fp j) (hy:y∈fp k) (e:x.b=y.b):j=k∧x=y:=by
 by_cases hjk:j=k
 ·subst hjk;exact ⟨rfl,Gw (h.nodup j) hx hy e⟩
 ·exact absurd e (h.disj j k hjk x hx y hy)
theorem BY.notLend (h:BY C w a σ Lt cv fp) {k:Nat} {x:Fe} (hx:x∈fp k) {j:Nat} (hj:x.l≤j):¬ G1 fp x.b j:=by
 rintro ⟨k',y,hy,e,hl,h1,h2⟩
 obtain ⟨rfl,rfl⟩:=h.same hy hx e
 rcases (h.slots k').feL hy with h3 | h3
 ·exact hl h3
 ·omega
theorem BY.lendAll (h:BY C w a σ Lt cv fp):BY C w a σ (fun b j=>Lt b j∨G1 fp b j) cv fp:=by
 have hx:Ab w w (fun _ _=>False):=Ab.refl _ _
 refine h.step (W:=fun _ _=>False) (env' :=σ.env) hx (by simp) (.inl ⟨rfl,fun _ _ h => .inl h,by simp⟩) h.tmps h.size (fun k => .inl ⟨rfl,rfl,rfl,fun _ _ _ _ _=>rfl,fun x hx'=>⟨by simp,fun j hj => ?_⟩,fun k' hk'=>⟨AC.same (h.slots k') hx (by simp),(h.looks k k' hk').2⟩⟩) h.disj ?_
 ·rintro (h1 | h1)
  ·exact (h.slots k).noLt hx' j hj h1
  ·exact h.notLend hx' hj h1
 ·rintro b j (h1 | ⟨k,x,hx',rfl,-⟩)
  ·exact h.lt b j h1
  ·exact ((h.slots k).inHeap hx').1
theorem DT.lendAll (H:DT C o w a σ Lt cv fp):DT C o w a σ (fun b j=>Lt b j∨G1 fp b j) cv fp:=⟨H.st.lendAll,H.df,H.ty,H.dst,H.opn⟩
theorem CW (h:BY C w a σ Lt cv fp) {ty:Nat} {d n:Int} {x:Option Operand} (hx:∀ y,x=some y→AT y) (hb:Fr C.E ty d (x.map (AB σ.env))=some n) :
  (x=none∧n=d)∨∃ y k,x=some y∧a.eval y = .int k n:=by
 cases x with
 | none=>simp[Fr] at hb;exact .inl ⟨rfl,hb.symm⟩
 | some y =>
   simp only[Option.map_some,Fr] at hb
   split at hb
   ·rename_i k m hl
    simp only[zS] at hb
    subst hb
    have:=Ai h (hx y rfl) hl
    simp only[AG] at this
    exact .inr ⟨y,k,rfl,this⟩
   ·simp at hb
theorem Ca {P:Program} {k:IntKind} {n:Int} {m:Nat} {code:BoundsCode} (h0:0≤n) (h1:n≤m):(Instr.sliceBound (.int k n) m code).run P w = .ok n.toNat w:=by
 simp[Instr.sliceBound,asIntOf,h0,h1]
theorem DG {P:Program} {isS:Bool} {len cap:Nat} {lo hi:Option Value} {l h:Int} (hl:(lo=none∧l=0)∨∃ k,lo=some (.int k l)) (hh:(hi=none∧h=len)∨∃ k,hi=some (.int k h))
  (h0:0≤l) (h1:l≤h) (h2:h≤len) (h3:len≤cap):(Instr.sliceBounds isS len cap lo hi none).run P w = .ok (l.toNat,h.toNat,cap) w:=by
 have a1:0≤h:=by omega
 have a2:h≤(cap:Int):=by omega
 have a3:l≤((h.toNat:Nat):Int):=by omega
 rcases hh with ⟨rfl,rfl⟩ | ⟨k,rfl⟩
 ·rcases hl with ⟨rfl,rfl⟩ | ⟨k,rfl⟩
  ·simp[Instr.sliceBounds]
  ·simp only[Instr.sliceBounds,Sem.run_bind,Sem.run_pure,Result.andThen_ok,zT]
   rw[Ca h0 h1];rfl
 ·rcases hl with ⟨rfl,rfl⟩ | ⟨k',rfl⟩
  ·simp only[Instr.sliceBounds,Sem.run_bind,Sem.run_pure,Result.andThen_ok]
   rw[Ca a1 a2];rfl
  ·simp only[Instr.sliceBounds,Sem.run_bind,Sem.run_pure,Result.andThen_ok]
   rw[Ca a1 a2]
   simp only[Result.andThen_ok]
   rw[Ca h0 a3];rfl
theorem AN.val1 {σ:AS} {v:Value} {p:List Pm} {cs:List T} (hdf:a.defers=[]) (h:BY C w a σ Lt cv fp) (hx:Ab w w' (fun _ _=>False))
  (hr:(execOp a.eval o).run C.P w = .ok (.value v) w')
  (hd:∀ d,o.dst=some d→d<a.tmps.size)
  (hfr:Av o σ (AL o (.val false p cs [] 0))) (hna:AH o.op=false)
  (hR:R w' C.Fz Lt σ.g p cs [v] []) :
  AN C o a w ⟨Ae (AL o (.val false p cs [] 0)) σ.env,σ.g⟩ :=
 AN.val hdf h hx hr hd hfr hna (vs:=[v]) (by simp[AD]) hR
theorem MV (H:DT C o w a σ Lt cv fp) {X:Operand} {lo hi:Option Operand} {t:TypeId} (hop:o.op = .slice t X lo hi none)
  {out:A9} (h:Cv C.E o t (AB σ.env X) (lo.map (AB σ.env)) (hi.map (AB σ.env)) 0 σ.g=some out) (hfr:Av o σ out.ups) :
  out.g=none∧AN C o a w ⟨Ae out.ups σ.env,σ.g⟩:=by
 have hX:AT X:=H.opn X (by simp[hop,Op.operands])
 have hlo:∀ y,lo=some y→AT y:=fun y hy=>H.opn y (by simp[hop,Op.operands,hy])
 have hhi:∀ y,hi=some y→AT y:=fun y hy=>H.opn y (by simp[hop,Op.operands,hy])
 have hna:AH o.op=false:=by simp[hop,AH]
 unfold Cv at h
 split at h
 ·rename_i s hv
  split at h
  ·rename_i l hh hl1 hh1
   split at h
   ·rename_i hc
    obtain ⟨c1,c2,c3,c4⟩:=hc
    simp only[zS] at h
    subst h
    have b1:=CW H.st hlo hl1
    have b2:=CW H.st hhi hh1
    obtain ⟨vs,f,h1,h2,-⟩:=Ag H.st hX hv
    obtain rfl:=Aa h1
    cases h2 with
    | leaf hl r =>
      simp only[AG] at hl
      refine ⟨rfl,AN.leaf H.df H.st (Ab.refl _ _) (v:=.string ⟨⟨(s.drop l.toNat).take (hh.toNat - l.toNat)⟩⟩) ?_ H.dst hfr hna rfl⟩
      simp only[execOp,hop]
      refine B5 ?_
      have hsz:(⟨⟨s⟩⟩:ByteArray).size=s.length:=rfl
      have:=DG (P:=C.P) (w:=w) (isS:=false) (len:=s.length) (cap:=s.length) (lo:=lo.map a.eval) (hi:=hi.map a.eval) (l:=l) (h:=hh)
       (b1.imp (fun x=>⟨by simp[x.1],x.2⟩) (fun ⟨y,k,x1,x2⟩=>⟨k,by simp[x1,x2]⟩)) (b2.imp (fun x=>⟨by simp[x.1],x.2⟩) (fun ⟨y,k,x1,x2⟩=>⟨k,by simp[x1,x2]⟩)) c1 c2 c3 (Nat.le_refl _)
      simp only[Instr.sliceAt,Sem.run_bind,run_underlying (D4 H.ty c4),Result.andThen_ok,Instr.slice,hl,Option.map_none,Option.isSome_none,Bool.false_eq_true,if_false,Sem.run_pure,hsz,this]
      congr 2
      ext1
      simp only[ByteArray.data_extract]
      apply Array.ext'
      simp
   ·simp at h
  ·simp at h
 ·rename_i fl el n cs hv
  split at h
  ·rename_i l hh hl1 hh1
   split at h
   ·rename_i hc
    obtain ⟨c1,c2,c3,c4,c5⟩:=hc
    have b1:=CW H.st hlo hl1
    have b2:=CW H.st hhi hh1
    obtain ⟨e,inf,t1,t2,t3⟩:=Bs H.ty c4
    have hexec:∀ {ad cap},a.eval X = .slice ad n cap→n≤cap→(execOp a.eval o).run C.P w = .ok (.value (.slice (if cap=l.toNat then ad else ad.map (·.add (l.toNat * el.length))) (hh.toNat - l.toNat) (cap - l.toNat))) w:=by
     intro ad cap hev hcap
     simp only[execOp,hop]
     refine B5 ?_
     have:=DG (P:=C.P) (w:=w) (isS:=true) (len:=n) (cap:=cap) (lo:=lo.map a.eval) (hi:=hi.map a.eval) (l:=l) (h:=hh)
      (b1.imp (fun x=>⟨by simp[x.1],x.2⟩) (fun ⟨y,k,x1,x2⟩=>⟨k,by simp[x1,x2]⟩)) (b2.imp (fun x=>⟨by simp[x.1],x.2⟩) (fun ⟨y,k,x1,x2⟩=>⟨k,by simp[x1,x2]⟩)) c1 c2 c3 hcap
     simp only[Instr.sliceAt,Sem.run_bind,run_underlying t1,Result.andThen_ok,Instr.slice,hev,this,sizeOf,typeInfo,run_program,t2,Sem.run_pure,t3,Option.map_none]
    have hpart:∀ {V:List Value} {f1:Fp} {Lt1:Nat→Nat→Prop} {P1:List Pm},P1.length=el.length→R w C.Fz Lt1 σ.g (rep n P1) cs V f1→∃ f',(∀ x∈f',x∈f1) ∧
      R w C.Fz Lt1 σ.g (rep (hh.toNat - l.toNat) P1) ((cs.drop (ix el.length l.toNat 0)).take (ix el.length (hh.toNat - l.toNat) 0)) ((V.drop (l.toNat * el.length)).take ((hh.toNat - l.toNat) * el.length)) f' :=by
     intro V f1 Lt1 P1 hP hR
     obtain ⟨fa,fb,fc,rfl,-,hm,-⟩:=hR.range (l.toNat * P1.length) ((hh.toNat - l.toNat) * P1.length)
     rw[K1 (by omega),hP] at hm
     rw[Gk,Gk]
     exact ⟨fb,by simp +contextual,hm⟩
    have hempty:hh.toNat - l.toNat=0→∀ fl',fl'≠Fl.own→∀ el',(∃ ad cap,a.eval X = .slice ad n cap∧n≤cap)→Av o σ (AL o (.val false [.sl fl' el'] [.lst (hh.toNat - l.toNat) ((cs.drop (ix el.length l.toNat 0)).take (ix el.length (hh.toNat - l.toNat) 0))] [] 0)) →
      AN C o a w ⟨Ae (AL o (.val false [.sl fl' el'] [.lst (hh.toNat - l.toNat) ((cs.drop (ix el.length l.toNat 0)).take (ix el.length (hh.toNat - l.toNat) 0))] [] 0)) σ.env,σ.g⟩:=by
     intro h0 fl' hfl el' ⟨ad,cap,hev,hcap⟩ hfr
     have hex:=hexec hev hcap
     rw[h0,HL,take_zero] at hfr ⊢
     rw[h0] at hex
     exact AN.val1 H.df H.st (Ab.refl _ _) hex H.dst hfr hna (.slE (fun e=>absurd e hfl) .nil)
    obtain ⟨vs,f,h1,h2,hsub⟩:=Ag H.st hX hv
    obtain rfl:=Aa h1
    by_cases hz:hh.toNat - l.toNat=0
    ·have hcap:∃ ad cap,a.eval X = .slice ad n cap∧n≤cap:=by
      obtain ⟨-,hrow⟩:=GD h2 c5
      rcases hrow with ⟨ad,cap,hva,hn0,_⟩ | ⟨b,off,cap,row,ety,fr,hva,hl0,hb,hn,-,-⟩
      ·exact ⟨ad,cap,by rw[hva,hn0],by omega⟩
      ·exact ⟨_,cap,hva,hn⟩
     cases fl with
     | own =>
       simp only at h
       split at h
       case h_2=>simp at h
       simp only[zS] at h
       subst h
       exact ⟨rfl,hempty hz _ (by simp) _ hcap hfr⟩
     | shr =>
       simp only[zS] at h
       subst h
       exact ⟨rfl,hempty hz _ (by simp) _ hcap hfr⟩
     | lent g1 =>
       simp only[zS] at h
       subst h
       exact ⟨rfl,hempty hz _ (by simp) _ hcap hfr⟩
    ·have hmul:l.toNat * el.length+(hh.toNat - l.toNat) * el.length≤n * el.length:=by
      rw[← Nat.add_mul];exact Nat.mul_le_mul_right _ (by omega)
     generalize hev:a.eval X=x at h2
     cases fl with
     | own =>
       simp only at h
       split at h
       case h_2=>simp at h
       simp only[zS] at h
       subst h
       cases h2 with
       | slE hf r=>omega
       | @slO b off _ cap row ety fr _ _ vs' _ _ _ fp₁ fp₂ h0 hb hFz hlt hn hs hr hf hi r =>
         subst hs
         have hex:=hexec hev hn
         rw[if_neg (by omega)] at hex
         simp only[Option.map_some,Addr.add_lit] at hex
         have hL:=R.lentify (Lt' :=fun b j=>Lt b j∨G1 fp b j) hi (fun _ _ h => .inl h) (fun x hx j a1 a2 hl=>by
          rcases hsub with he | ⟨k,hk⟩
          ·simp at he
          ·exact .inr ⟨k,x,hk x (by simp[hx]),rfl,hl,a1,a2⟩)
         rw[GX] at hL
         obtain ⟨f',hf',hR⟩:=hpart (Ad (g:=σ.g) el) hL
         have:f'=[]:=by
          cases f' with
          | nil=>rfl
          | cons y ys=>exact absurd (hf' y (by simp)) (by simp)
         subst this
         rw[Bf hmul] at hR
         have hlenL:∀ j,off+l.toNat * el.length≤j→j<off+l.toNat * el.length+(hh.toNat - l.toNat) * (lentifies σ.g el).length→(Lt b j∨G1 fp b j):=by
          intro j a1 a2
          rw[Ad] at a2
          rcases hsub with he | ⟨k,hk⟩
          ·simp at he
          ·refine .inr ⟨k,⟨b,off,off+n * el.length,off+n * el.length,off+cap * el.length⟩,hk _ (by simp),rfl,?_,?_,?_⟩
           ·simp only;omega
           ·simp only;omega
           ·simp only;omega
         have hcapm:n * el.length≤cap * el.length:=Nat.mul_le_mul_right _ hn
         exact ⟨rfl,AN.val1 H.lendAll.df H.lendAll.st (Ab.refl _ _) hex H.dst hfr hna
          (R.slL (by rw[Ad];exact h0) hb hlenL (by omega) (by rw[Ad]) (by rw[Ad];omega) hR .nil)⟩
     | shr =>
       simp only[zS] at h
       subst h
       cases h2 with
       | slE hf r=>omega
       | @slS b off _ cap row ety fr _ _ vs' _ _ _ _ h0 hb hFz hn hs hr hi r =>
         subst hs
         have hex:=hexec hev hn
         rw[if_neg (by omega)] at hex
         simp only[Option.map_some,Addr.add_lit] at hex
         obtain ⟨f',hf',hR⟩:=hpart rfl hi
         have:f'=[]:=by
          cases f' with
          | nil=>rfl
          | cons y ys=>exact absurd (hf' y (by simp)) (by simp)
         subst this
         rw[Bf hmul] at hR
         exact ⟨rfl,AN.val1 H.df H.st (Ab.refl _ _) hex H.dst hfr hna (R.slS h0 hb hFz (by omega) rfl (by omega) hR .nil)⟩
     | lent g1 =>
       simp only[zS] at h
       subst h
       cases h2 with
       | slE hf r=>omega
       | @slL b off _ cap row ety fr _ _ vs' _ _ _ _ h0 hb hlt hn hs hr hi r =>
         subst hs
         have hex:=hexec hev hn
         rw[if_neg (by omega)] at hex
         simp only[Option.map_some,Addr.add_lit] at hex
         obtain ⟨f',hf',hR⟩:=hpart rfl hi
         have:f'=[]:=by
          cases f' with
          | nil=>rfl
          | cons y ys=>exact absurd (hf' y (by simp)) (by simp)
         subst this
         rw[Bf hmul] at hR
         exact ⟨rfl,AN.val1 H.df H.st (Ab.refl _ _) hex H.dst hfr hna (R.slL h0 hb (fun j a1 a2=>hlt j (by omega) (by omega)) (by omega) rfl (by omega) hR .nil)⟩
       | slX hg r=>simp[Fl.live] at c5;omega
   ·simp at h
  ·simp at h
 ·simp at h
end
theorem Qy {us:List (Nat × AA)} {k:Nat} {s:AA} (hn:(us.map (·.1)).Nodup) (h:(k,s)∈us):KT us k=some s:=by
 induction us with
 | nil=>simp at h
 | cons u us ih =>
   obtain ⟨j,t⟩:=u
   simp only[map_cons,nodup_cons] at hn
   simp only[KT]
   rcases mem_cons.1 h with h | h
   ·obtain ⟨rfl,rfl⟩:k=j∧s=t:=by simpa using h
    rw[Ee hn.1];simp
   ·rw[ih hn.2 h]
theorem Hd {us env:List (Nat × AA)} {k:Nat} {s:AA} (hn:(us.map (·.1)).Nodup) (h:(k,s)∈us):AE (Ae us env) k=s:=by
 rw[HG,Qy hn h];rfl
theorem Lb {us env:List (Nat × AA)} {k:Nat} (h:k ∉ us.map (·.1)):AE (Ae us env) k=AE env k:=by
 rw[HG,Ee h];rfl
theorem Az:∀ {l:List Nat},BL l=true→l.Nodup
 | [],_=>List.nodup_nil
 | x::xs,h=>by
   simp only[BL,zB,Bool.not_eq_true'] at h
   refine nodup_cons.2 ⟨fun hm => ?_,Az h.2⟩
   have:=h.1
   rw[any_eq_false] at this
   exact this x hm (by simp)
section
variable {C:BU} {w w':World} {a a':Act} {σ:AS} {Lt Lt':Nat→Nat→Prop} {cv cv':Nat→Value} {fp fpU:Nat→Fp} {g g':Nat} {env':List (Nat × AA)} {o:Oper} {Fz:Nat→Prop}
open Classical in
theorem BY.many {W:Nat→Nat→Prop} (us:List (Nat × AA)) (val:Nat→Value) (fn:Nat→Fp) (h:BY C w a σ Lt cv fp) (hx:Ab w w' W)
  (hW:∀ b j,b<w.heap.size→W b j→C.w0.heap.size≤b∨C.Mut b j)
  (hg:(g'=σ.g∧(∀ b j,Lt b j→Lt' b j)∧(∀ b j,Lt b j→¬ W b j))∨(σ.g<g'∧Lt'=fun _ _=>False))
  (hnd:(us.map (·.1)).Nodup)
  (htm:∀ k,k<1000000→(if k∈us.map (·.1) then val k else cv k)=a'.tmps.getD k undef) (hsz:a'.tmps.size≤1000000)
  (hfree:∀ k,k ∉ us.map (·.1)→(∀ n,AE σ.env k = .tup n→n≤16→∀ i,i<n→AF k i∈us.map (·.1)→val (AF k i)=cv (AF k i)) ∧
     ∀ x∈fp k,(∀ j,x.lo≤j→(j<x.hi∨j=x.lo)→¬ W x.b j)∧∀ j,x.l≤j→¬ Lt' x.b j)
  (hus:∀ k s,(k,s)∈us→AR C w' Lt' g' (fun k=>if k∈us.map (·.1) then val k else cv k) (Ae us σ.env) k (fn k) s∧((fn k).map Fe.b).Nodup ∧
     (∀ k'∈s.looks,k'<1000000∧AI (AE (Ae us σ.env) k')) ∧
     (k<1000000→AI (AE σ.env k)→AC w w' (cv k) (AE σ.env k) (val k) s∧AI s) ∧
     (∀ x∈fn k,w.heap.size≤x.b∨∃ k0∈us.map (·.1),∃ y∈fp k0,y.b=x.b∧y.lo≤x.lo∧x.t≤y.t))
  (hdis:∀ j∈us.map (·.1),∀ k∈us.map (·.1),j≠k→∀ x∈fn j,∀ y∈fn k,x.b≠y.b)
  (hlt:∀ b j,Lt' b j→b<w'.heap.size):∃ fp',BY C w' a' ⟨Ae us σ.env,g'⟩ Lt' (fun k=>if k∈us.map (·.1) then val k else cv k) fp' :=by
 let ow:Nat→Nat:=fun b=>if hb:∃ k,k∈us.map (·.1)∧∃ x∈fn k,x.b=b then hb.choose else 0
 have how:∀ k∈us.map (·.1),∀ x∈fn k,ow x.b=k:=by
  intro k hk x hx'
  have hb:∃ k',k'∈us.map (·.1)∧∃ y∈fn k',y.b=x.b:=⟨k,hk,x,hx',rfl⟩
  have e:ow x.b=hb.choose:=dif_pos hb
  obtain ⟨h1,y,h2,h3⟩:=hb.choose_spec
  rw[e]
  by_cases hE:hb.choose=k
  ·exact hE
  ·exact absurd h3 (hdis _ h1 k hk hE y h2 x hx')
 refine h.turn (W:=W) (ow:=ow) (fpU:=fn) (fun k=>k∈us.map (·.1)) hx hW hg htm hsz (fun k hk => ?_) (fun k hk => ?_) hlt
 ·obtain ⟨h1,h2⟩:=hfree k hk
  refine ⟨Lb hk,if_neg hk,fun n hn h16 i hi => ?_,h2⟩
  split
  ·rename_i hm;exact h1 n hn h16 i hi hm
  ·rfl
 ·obtain ⟨⟨k',s⟩,hm,rfl⟩:=mem_map.1 hk
  obtain ⟨h1,h2,h3,h4,h5⟩:=hus k' s hm
  simp only
  rw[Hd hnd hm]
  exact ⟨h1,h2,h3,fun hs1 hs=>by rw[if_pos hk];exact h4 hs1 hs,fun x hx'=>⟨how k' hk x hx',h5 x hx'⟩⟩
structure FA (C:BU) (w:World) (σ:AS) (Lt:Nat→Nat→Prop) (cv:Nat→Value) (fp:Nat→Fp) (f:Fp) (k:Nat) (s:AA) (fr:Fp):Prop where
 slot:∀ cv' env',cv' k=cv k→AR C w Lt σ.g cv' env' k fr s
 took:∀ x∈f,x∈fp k
 rest:∀ x∈fr,x∈fp k
 nodup:((f++fr).map Fe.b).Nodup
 looks:s.looks=[]
 keep:AI (AE σ.env k)→AC w w (cv k) (AE σ.env k) (cv k) s∧AI s
 old:A0 (AE σ.env k)=false
theorem Ma (g:Nat) (a b:List Pm):Al g (a++b)=(Al g a&&Al g b):=by
 induction a with
 | nil=>simp[Al]
 | cons p a ih=>simp[Al,ih,Bool.and_assoc]
theorem R.oneCells {g:Nat} {ps ts vs f} (h:R w Fz Lt g ps ts vs f) (hf:Al g ps=true):∀ v∈vs,v.oneCell'=true:=by
 induction h with
 | nil=>simp
 | leaf h _ ih =>
   rename_i t v _ _ _ _ _
   simp only[Al,zB] at hf
   simp only[mem_cons,forall_eq_or_imp]
   refine ⟨?_,ih hf.2⟩
   cases t <;>simp only[AG] at h
   ·subst h;rfl
   ·subst h;rfl
   ·obtain ⟨b,rfl,-⟩:=h;rfl
   ·subst h;rfl
   ·rcases h with rfl | rfl | rfl <;>rfl
   ·obtain ⟨t,x,rfl⟩:=h;rfl
 | dead=>simp[Al,Pm.firm] at hf
 | slX h=>simp[Al,Pm.firm] at hf;omega
 | slH _ ih=>simp only[Al,zB] at hf;simp only[mem_cons,forall_eq_or_imp];exact ⟨rfl,ih hf.2⟩
 | rfX h=>simp[Al,Pm.firm] at hf;omega
 | slE _ _ ih=>simp only[Al,zB] at hf;simp only[mem_cons,forall_eq_or_imp];exact ⟨rfl,ih hf.2⟩
 | slS _ _ _ _ _ _ _ _ _ ih=>simp only[Al,zB] at hf;simp only[mem_cons,forall_eq_or_imp];exact ⟨rfl,ih hf.2⟩
 | slL _ _ _ _ _ _ _ _ _ ih=>simp only[Al,zB] at hf;simp only[mem_cons,forall_eq_or_imp];exact ⟨rfl,ih hf.2⟩
 | slO _ _ _ _ _ _ _ _ _ _ _ ih=>simp only[Al,zB] at hf;simp only[mem_cons,forall_eq_or_imp];exact ⟨rfl,ih hf.2⟩
 | rfS _ _ _ _ _ _ _ _ ih=>simp only[Al,zB] at hf;simp only[mem_cons,forall_eq_or_imp];exact ⟨rfl,ih hf.2⟩
 | rfL _ _ _ _ _ _ _ _ ih=>simp only[Al,zB] at hf;simp only[mem_cons,forall_eq_or_imp];exact ⟨rfl,ih hf.2⟩
 | rfO _ _ _ _ _ _ _ _ _ _ ih=>simp only[Al,zB] at hf;simp only[mem_cons,forall_eq_or_imp];exact ⟨rfl,ih hf.2⟩
 | fnv _ _ _ ih=>simp only[Al,zB] at hf;simp only[mem_cons,forall_eq_or_imp];exact ⟨rfl,ih hf.2⟩
 | mvE=>simp[Al,Pm.firm] at hf
 | mvX=>simp[Al,Pm.firm] at hf
 | mvO=>simp[Al,Pm.firm] at hf
 | bldN _ _ _ _ _ ih=>simp only[Al,zB] at hf;simp only[mem_cons,forall_eq_or_imp];exact ⟨rfl,ih hf.2⟩
 | bldO _ _ _ _ _ _ _ _ _ _ _ _ _ ih=>simp only[Al,zB] at hf;simp only[mem_cons,forall_eq_or_imp];exact ⟨rfl,ih hf.2⟩
theorem LQ {v:Value} (h:v.oneCell'=true):v.cells = #[v]:=by
 cases v <;>simp[Value.oneCell'] at h <;>rfl
theorem AD.cells {ag:Bool} {v:Value} {vs:List Value} {ps ts f} {g:Nat} (h:AD ag v vs) (hR:R w Fz Lt g ps ts vs f) (hf:Al g ps=true):v.cells.toList=vs:=by
 cases ag with
 | true=>simp only[AD,if_true] at h;subst h;simp[Value.cells]
 | false =>
   have h:=Aa h
   subst h
   rw[LQ (hR.oneCells hf v (by simp))]
theorem PX {cs ts:List T} {i n:Nat} (h:CG cs i n=some ts):Aj cs i ts=cs:=by
 obtain ⟨h1,h2,h3⟩:=Bh h
 rcases Nat.eq_zero_or_pos n with rfl | hn
 ·have:ts=[]:=length_eq_zero_iff.1 h2
  subst this;rfl
 ·have h3:=h3 hn
  rw[Lp (by omega),h2,h1]
  exact (KO cs i n).symm
theorem F4 {P:List Pm} {cs:List T} {e c n:Nat} {q:List Pm} {r:List T} (hP:BO P c n=some q) (hC:CG cs (ix P.length e c) n=some r) (hl:cs.length=P.length) (hn:0<n) :
  ix P.length e c=c:=by
 have h1:=(An hP).2.2 hn
 have h2:=(Bh hC).2.2 hn
 rw[KQ (by omega)] at h2 ⊢
 rcases Nat.eq_zero_or_pos e with rfl | he
 ·simp
 ·have:P.length≤e * P.length:=Nat.le_mul_of_pos_left _ he
  omega
theorem JN {p:List Pm} {c n:Nat} {q:List Pm} (h:BO p c n=some q) (hq:¬ noOwns q=true):0<n:=by
 rcases Nat.eq_zero_or_pos n with rfl | hn
 ·simp only[BO,zS] at h;subst h;simp[noOwns] at hq
 ·exact hn
theorem R.deads {g:Nat}:∀ {n:Nat} {ts:List T} {vs:List Value},ts.length=n→vs.length=n→R w Fz Lt g (List.replicate n .dead) ts vs []
 | 0,[],[],_,_ => .nil
 | n+1,t::ts,v::vs,h1,h2 => .dead (R.deads (by simpa using h1) (by simpa using h2))
 | 0,_::_,_,h,_=>by simp at h
 | 0,[],_::_,_,h=>by simp at h
 | n+1,[],_,h,_=>by simp at h
 | n+1,_::_,[],_,h=>by simp at h
theorem JO (h:BY C w a σ Lt cv fp) {t k:Nat} {pl:AO} {p p':List Pm} {cs:List T} {d:CE} {v:V} (hg:AE σ.env t = .view k pl) (hpath:pl.path=[]) (hroot:(AE σ.env k).root=some (p,cs,d))
  (hst:¬ CY d pl=true) (hv:atPlace p cs pl=some v) (hpos:0<pl.n) (hp':p'.length=pl.n)
  (hR':∀ vs f,R w C.Fz Lt σ.g v.p v.cs vs f→(∀ x∈f,x∈fp k)→R w C.Fz Lt σ.g p' v.cs vs []) :
  ∃ vs f fr,AD v.agg (cv t) vs∧R w C.Fz Lt σ.g v.p v.cs vs f∧FA C w σ Lt cv fp f k ((AE σ.env k).withRoot (BH p pl.c p') cs (([],pl.c,pl.n)::d)) fr:=by
 have hlk:=h.looks t k (by rw[hg];simp[AA.looks])
 have hs:=h.slots t
 rw[hg] at hs
 obtain ⟨el,rcs,a1,a2,a3,a4⟩:=Ac hv
 rw[hpath] at a1
 simp only[rowAt,zS,zP] at a1
 obtain ⟨rfl,rfl⟩:=a1
 obtain ⟨vs0,base0,fI,hrv,hR,hsub,hk⟩:=(h.slots k).rootR hroot
 have hix:=F4 a2 a3 hR.length_eq.1 hpos
 rw[hix] at a3
 obtain ⟨vs1,base1,el1,rv,base,k1,k2,k3,-⟩:=hs.2 p cs d hroot (by simpa using hst)
 obtain ⟨rfl,rfl⟩:=hrv.uniq k1
 rw[hpath] at k2
 simp only[A8,zS,zP] at k2
 obtain ⟨rfl,rfl,rfl⟩:=k2
 simp only[Desk.pick,hix] at k3
 obtain ⟨f1,f,f2,rfl,hlen,hR1,hset⟩:=hR.resubP a2 a3 hpos
 have hnI:((f1++(f++f2)).map Fe.b).Nodup:=by
  rcases hk with ⟨_,_,_,_,e⟩ | ⟨_,_,_,_,_,_,_,_,_,_,_,_,e,_⟩
  ·rw[e];exact h.nodup k
  ·have:=h.nodup k;rw[e] at this;simp only[map_cons,nodup_cons] at this;exact this.2
 have hlent:=hR' _ _ hR1 (fun y hy=>hsub y (by simp[hy]))
 have hnew:=hset w Lt (fun _ _=>False) _ _ _ _ (Ab.refl _ _) (fun _ _ h=>h) (by simp) (by simp) (fun y hy=>⟨by simp,hR.noLtAbove y (by
  simp only[mem_append] at hy ⊢;rcases hy with hy | hy
  ·exact .inl hy
  ·exact .inr (.inr hy))⟩) hlent hp'
 rw[PX a3,← KO] at hnew
 have hplen:(BH p pl.c p').length=p.length:=by have:=hnew.length_eq;have:=hR.length_eq;omega
 simp only[nil_append] at hnew
 have hdisj:∀ y∈f,∀ z∈f1++f2,y.b≠z.b:=by
  intro y hy z hz e
  have hp:(f1++(f++f2)).Perm (f++(f1++f2)):=by
   rw[← append_assoc,← append_assoc]
   exact perm_append_comm.append_right f2
  have:=(hp.map Fe.b).nodup_iff.1 hnI
  rw[map_append,nodup_append] at this
  exact this.2.2 _ (mem_map.2 ⟨y,hy,rfl⟩) _ (mem_map.2 ⟨z,hz,rfl⟩) e
 have hnf:((f++(f1++f2)).map Fe.b).Nodup:=by
  have hp:(f1++(f++f2)).Perm (f++(f1++f2)):=by
   rw[← append_assoc,← append_assoc]
   exact perm_append_comm.append_right f2
  exact (hp.map Fe.b).nodup_iff.1 hnI
 have hkeep:AI (AE σ.env k)→AC w w (cv k) (AE σ.env k) (cv k) ((AE σ.env k).withRoot (BH p pl.c p') cs (([],pl.c,pl.n)::d))∧AI ((AE σ.env k).withRoot (BH p pl.c p') cs (([],pl.c,pl.n)::d)):=by
  intro _
  refine ⟨AC.turned hroot hplen (by simp) (fun vs2 base2 hr2=>⟨vs2,?_⟩) (by simp),?_⟩
  ·cases hgk:AE σ.env k with
   | val ag2 p2 cs2 d2 pin2=>rw[hgk] at hr2;exact hr2
   | box p2 cs2 d2 pin2 =>
     rw[hgk] at hr2 hroot
     simp only[AA.root,zS,zP] at hroot
     obtain ⟨b,off,row,e,fr,q1,q2,q3,q4⟩:=hr2
     exact ⟨b,off,row,e,fr,q1,q2,by rw[hplen,← hroot.1];exact q3,q4⟩
   | _=>rw[hgk] at hroot;simp[AA.root] at hroot
  ·cases hgk:AE σ.env k with
   | val=>simp[AA.withRoot,AI]
   | box=>simp[AA.withRoot,AI]
   | _=>rw[hgk] at hroot;simp[AA.root] at hroot
 have hold:A0 (AE σ.env k)=false:=by
  cases hf:A0 (AE σ.env k) with
  | false=>rfl
  | true=>exact absurd hlk.2 (Aq hf)
 refine ⟨(vs0.drop pl.c).take pl.n,f,?_⟩
 rcases hk with ⟨ag,pin,hgk,rfl,e⟩ | ⟨pin,b,off,row,ety,fr,hgk,rfl,hcv,hb,hvs,hsz,e,hp0,hz,hlt0,hfree⟩
 ·refine ⟨f1++f2,by rw[a4];exact k3,hR1,⟨fun cv' env' hcv' => ?_,fun y hy=>hsub y (by simp[hy]),fun y hy=>hsub y (by
   simp only[mem_append] at hy ⊢;rcases hy with hy | hy
   ·exact .inl hy
   ·exact .inr (.inr hy)),hnf,?_,hkeep,hold⟩⟩
  ·have hsk:=h.slots k
   rw[hgk] at hsk ⊢
   rw[hgk] at hrv
   simp only[AA.withRoot]
   obtain ⟨vs9,k1',-,k3'⟩:=hsk
   exact ⟨vs0,by rw[hcv'];exact hrv.1,hnew,fun hp=>by rw[k3' hp];exact k1'.uniq hrv.1⟩
  ·rw[hgk];rfl
 ·refine ⟨⟨b,off,off+p.length,0,off+p.length⟩::(f1++f2),by rw[a4];exact k3,hR1,⟨fun cv' env' hcv' => ?_,fun y hy=>hsub y (by simp[hy]),fun y hy => ?_,?_,?_,hkeep,hold⟩⟩
  ·have hsk:=h.slots k
   rw[hgk] at hsk ⊢
   simp only[AA.withRoot]
   refine ⟨?_,fun hp=>by rw[hcv',hplen];exact hsk.2 hp⟩
   rw[hcv',hcv]
   have:=R.rfO (b:=b) (off:=off) (row:=row) (e:=ety) (fr:=fr) (el:=BH p pl.c p') (cs:=cs) (vs' :=vs0) (by rw[hplen];exact hp0) hb hz hlt0 (by rw[hplen];exact hvs.symm) (by rw[hplen];exact hsz) (by rw[hplen];exact hfree) hnew (R.nil (w:=w) (Fz:=C.Fz) (Lt:=Lt) (g:=σ.g))
   simpa [hplen] using this
  ·rw[e]
   simp only[mem_cons,mem_append] at hy ⊢
   rcases hy with hy | hy | hy
   ·exact .inl hy
   ·exact .inr (.inl hy)
   ·exact .inr (.inr (.inr hy))
  ·have hall:=h.nodup k
   rw[e] at hall
   simp only[map_cons,nodup_cons] at hall
   have hp:(f++⟨b,off,off+p.length,0,off+p.length⟩::(f1++f2)).Perm (⟨b,off,off+p.length,0,off+p.length⟩::(f++(f1++f2))):=perm_middle
   refine (hp.map Fe.b).nodup_iff.2 ?_
   simp only[map_cons,nodup_cons]
   refine ⟨fun hm=>hall.1 ?_,hnf⟩
   simp only[map_append,mem_append] at hm ⊢
   rcases hm with hm | hm | hm
   ·exact .inr (.inl hm)
   ·exact .inl hm
   ·exact .inr (.inr hm)
  ·rw[hgk];rfl
theorem R.holes {g:Nat}:∀ {ps:List Pm} {ts hs:List T} {vs:List Value} {f:Fp},R w Fz Lt g ps ts vs f→Bn ps ts=some hs→R w Fz Lt g ps hs vs []
 | [],_,hs,_,_,h,hh=>by
   cases h
   simp only[Bn,zS] at hh
   subst hh;exact .nil
 | .leaf::ps,t::ts,hs,_,_,h,hh=>by
   simp only[Bn] at hh
   split at hh
   ·simp at hh
   ·rename_i r hr
    simp only[zS] at hh
    subst hh
    cases h with
    | leaf h1 h2=>exact .leaf h1 (h2.holes hr)
 | .sl .shr el::ps,t::ts,hs,_,_,h,hh=>by
   simp only[Bn] at hh
   split at hh
   ·simp at hh
   ·rename_i r hr
    simp only[zS] at hh
    subst hh
    cases h with
    | slE h1 h2=>exact .slE h1 (h2.holes hr)
    | slS h0 hb hz hn hs hr' hi h2=>exact .slS h0 hb hz hn hs hr' hi (h2.holes hr)
    | slH h2=>exact .slH (h2.holes hr)
 | .sl .own el::ps,t::ts,hs,_,_,h,hh=>by
   simp only[Bn] at hh
   split at hh
   ·simp at hh
   ·rename_i r hr
    simp only[zS] at hh
    subst hh
    cases h with
    | slE h1 h2=>exact .slH (h2.holes hr)
    | slO h0 hb hz hl hn hs hr' hf hi h2=>exact .slH (h2.holes hr)
    | slH h2=>exact .slH (h2.holes hr)
 | .dead::ps,_,_,_,_,_,hh=>by simp[Bn] at hh
 | .sl (.lent _) _::ps,_,_,_,_,_,hh=>by simp[Bn] at hh
 | .rf _ _::ps,_,_,_,_,_,hh=>by simp[Bn] at hh
 | .fn _::ps,_,_,_,_,_,hh=>by simp[Bn] at hh
 | .mv _ _::ps,_,_,_,_,_,hh=>by simp[Bn] at hh
 | .bld _ _::ps,_,_,_,_,_,hh=>by simp[Bn] at hh
theorem E8 {f:List T→List T} (path:List (Nat × Nat)):∀ {P:List Pm} {cs:List T} {el rcs},rowAt P cs path=some (el,rcs)→Ah P cs path f=Ah P cs path (fun _=>f rcs):=by
 induction path with
 | nil =>
   intro P cs el rcs h
   simp only[rowAt,zS,zP] at h
   obtain ⟨rfl,rfl⟩:=h
   rfl
 | cons ec path ih =>
   obtain ⟨e,c⟩:=ec
   intro P cs el rcs h
   rw[rowAt] at h
   rw[Ah,Ah]
   split at h <;>try simp at h
   rename_i el1 hP
   split at h <;>try simp at h
   rw[ih h]
theorem JB (h:BY C w a σ Lt cv fp) {t k:Nat} {pl:AO} {p el:List Pm} {cs rcs hs:List T} {d:CE} {v:V} (hg:AE σ.env t = .view k pl) (hpath:pl.path≠[]) (hroot:(AE σ.env k).root=some (p,cs,d))
  (hst:¬ CY d pl=true) (hv:atPlace p cs pl=some v) (hra:rowAt p cs pl.path=some (el,rcs)) (hh:Bn v.p v.cs=some hs) (hpos:0<pl.n) :
  ∃ vs f fr,AD v.agg (cv t) vs∧R w C.Fz Lt σ.g v.p v.cs vs f∧FA C w σ Lt cv fp f k ((AE σ.env k).withRoot p (Ah p cs pl.path fun rcs=>Aj rcs (ix el.length pl.e pl.c) hs) ((Dx pl.path,pl.c,pl.n)::d)) fr:=by
 have hlk:=h.looks t k (by rw[hg];simp[AA.looks])
 have hs' :=h.slots t
 rw[hg] at hs'
 obtain ⟨el1,rcs1,a1,a2,a3,a4⟩:=Ac hv
 rw[hra] at a1
 obtain ⟨rfl,rfl⟩:el=el1∧rcs=rcs1:=by simpa using a1
 obtain ⟨vs0,base0,fI,hrv,hR,hsub,hk⟩:=(h.slots k).rootR hroot
 have hfI:(fI.map Fe.b).Nodup:=by
  rcases hk with ⟨_,_,_,_,e⟩ | ⟨_,_,_,_,_,_,_,_,_,_,_,_,e,_⟩
  ·rw[e];exact h.nodup k
  ·have:=h.nodup k;rw[e] at this;simp only[map_cons,nodup_cons] at this;exact this.2
 rw[← BI p] at hR
 have hrne:rcs≠[]:=by
  rintro rfl
  have:=(Bh a3).2.2 hpos
  simp at this;omega
 obtain ⟨m',rv',base',fpI,fpO,hcr',hRI,hperm,-,hcons,hset⟩:=hR.focus (W:=fun _ _=>False) pl.path base0 hfI hra hrne
 obtain ⟨vs1,base1,el2,rv,base,k1,k2,k3,-⟩:=hs'.2 p cs d hroot (by simpa using hst)
 obtain ⟨rfl,rfl⟩:=hrv.uniq k1
 rw[k2] at hcr'
 obtain ⟨rfl,rfl,rfl⟩:el2=el∧rv=rv'∧base=base' :=by simpa using hcr'
 obtain ⟨f1,fm,f2,rfl,hlen,hR1,hre⟩:=hRI.resub a2 a3 hpos
 have hH:=hR1.holes hh
 have hnewI:=hre w (fun _ _=>False) _ _ _ (Ab.refl _ _) (by simp) (by simp) (by simp) hH
 rw[← KO] at hnewI
 obtain ⟨fp',hRn,hpermN⟩:=hset w _ _ _ (Ab.refl _ _) (by simp) (by simp) (by simp) hnewI (fun b o hb hp=>by
  obtain ⟨b1,o1,row,e,fr,hbase,hrow⟩:=hcons hp
  rw[hb] at hbase
  obtain ⟨rfl,rfl⟩:b=b1∧o=o1:=by simpa using hbase
  exact ⟨row,e,fr,hrow.hb,hrow.seg,fun _ _ _ hb0=>by rw[hrow.hb] at hb0;simp only[zS,Obj.cells.injEq] at hb0;exact hb0.2.2⟩)
 rw[if_neg hpath,BI,← E8 pl.path (f:=fun rcs=>Aj rcs (ix el2.length pl.e pl.c) hs) hra] at hRn
 have hmem:∀ x,x∈fm++fp'→x∈fI:=by
  intro x hx
  refine hperm.mem_iff.2 ?_
  rcases mem_append.1 hx with hx | hx
  ·simp[hx]
  ·have:=hpermN.mem_iff.1 hx
   simp only[mem_append,List.not_mem_nil,false_or] at this ⊢
   rcases this with (h | h) | h
   ·exact .inl (.inl h)
   ·exact .inl (.inr (.inr h))
   ·exact .inr h
 have hnd:((fm++fp').map Fe.b).Nodup:=by
  have hp:(fm++fp').Perm (f1++(fm++f2)++fpO):=(hpermN.append_left fm).trans (by rw[perm_iff_count];intro z;simp only[count_append,List.count_nil];omega)
  exact ((hp.trans hperm.symm).map Fe.b).nodup_iff.2 hfI
 have hkeep:AI (AE σ.env k)→AC w w (cv k) (AE σ.env k) (cv k) ((AE σ.env k).withRoot p (Ah p cs pl.path fun rcs=>Aj rcs (ix el2.length pl.e pl.c) hs) ((Dx pl.path,pl.c,pl.n)::d))∧AI ((AE σ.env k).withRoot p (Ah p cs pl.path fun rcs=>Aj rcs (ix el2.length pl.e pl.c) hs) ((Dx pl.path,pl.c,pl.n)::d)):=by
  intro _
  refine ⟨AC.turned hroot rfl (fun _ vs2 base2 hr2 => ?_) (fun vs2 base2 hr2=>⟨vs2,?_⟩) (fun _=>⟨rfl,⟨fun _ _=>False,Ab.refl _ _⟩,fun e c h=>Cq hpath e c h⟩),?_⟩
  ·cases hgk:AE σ.env k with
   | val ag2 p2 cs2 d2 pin2=>rw[hgk] at hr2;exact hr2
   | box p2 cs2 d2 pin2 =>
     rw[hgk] at hr2 hroot
     simp only[AA.root,zS,zP] at hroot
     obtain ⟨b,off,row,e,fr,q1,q2,q3,q4⟩:=hr2
     exact ⟨b,off,row,e,fr,q1,q2,by rw[← hroot.1];exact q3,q4⟩
   | _=>rw[hgk] at hroot;simp[AA.root] at hroot
  ·cases hgk:AE σ.env k with
   | val ag2 p2 cs2 d2 pin2=>rw[hgk] at hr2;exact hr2
   | box p2 cs2 d2 pin2 =>
     rw[hgk] at hr2 hroot
     simp only[AA.root,zS,zP] at hroot
     obtain ⟨b,off,row,e,fr,q1,q2,q3,q4⟩:=hr2
     exact ⟨b,off,row,e,fr,q1,q2,by rw[← hroot.1];exact q3,q4⟩
   | _=>rw[hgk] at hroot;simp[AA.root] at hroot
  ·cases hgk:AE σ.env k with
   | val=>simp[AA.withRoot,AI]
   | box=>simp[AA.withRoot,AI]
   | _=>rw[hgk] at hroot;simp[AA.root] at hroot
 have hold:A0 (AE σ.env k)=false:=by
  cases hf:A0 (AE σ.env k) with
  | false=>rfl
  | true=>exact absurd hlk.2 (Aq hf)
 refine ⟨Desk.pick rv el2 pl,fm,?_⟩
 rcases hk with ⟨ag,pin,hgk,rfl,e⟩ | ⟨pin,b,off,row,ety,fr,hgk,rfl,hcv,hb,hvs,hsz,e,hp0,hz,hlt0,hfree⟩
 ·refine ⟨fp',by rw[a4];exact k3,hR1,⟨fun cv' env' hcv' => ?_,fun y hy=>hsub y (hmem y (by simp[hy])),fun y hy=>hsub y (hmem y (by simp[hy])),hnd,?_,hkeep,hold⟩⟩
  ·have hsk:=h.slots k
   rw[hgk] at hsk ⊢
   rw[hgk] at hrv
   simp only[AA.withRoot]
   obtain ⟨vs9,k1',-,k3'⟩:=hsk
   obtain rfl:=hrv.1.uniq k1'
   exact ⟨vs0,by rw[hcv'];exact k1',hRn,k3'⟩
  ·rw[hgk];rfl
 ·refine ⟨⟨b,off,off+p.length,0,off+p.length⟩::fp',by rw[a4];exact k3,hR1,⟨fun cv' env' hcv' => ?_,fun y hy=>hsub y (hmem y (by simp[hy])),fun y hy => ?_,?_,?_,hkeep,hold⟩⟩
  ·have hsk:=h.slots k
   rw[hgk] at hsk ⊢
   simp only[AA.withRoot]
   refine ⟨?_,fun hp=>by rw[hcv'];exact hsk.2 hp⟩
   rw[hcv',hcv]
   have:=R.rfO (b:=b) (off:=off) (row:=row) (e:=ety) (fr:=fr) (el:=p) (vs' :=vs0) hp0 hb hz hlt0 hvs.symm hsz hfree hRn (R.nil (w:=w) (Fz:=C.Fz) (Lt:=Lt) (g:=σ.g))
   simpa using this
  ·rw[e]
   rcases mem_cons.1 hy with hy | hy
   ·exact mem_cons.2 (.inl hy)
   ·exact mem_cons_of_mem _ (hmem y (by simp[hy]))
  ·have hall:=h.nodup k
   rw[e] at hall
   simp only[map_cons,nodup_cons] at hall
   have hp:(fm++⟨b,off,off+p.length,0,off+p.length⟩::fp').Perm (⟨b,off,off+p.length,0,off+p.length⟩::(fm++fp')):=perm_middle
   refine (hp.map Fe.b).nodup_iff.2 ?_
   simp only[map_cons,nodup_cons]
   refine ⟨fun hm=>hall.1 ?_,hnd⟩
   obtain ⟨x,hx,hxe⟩:=mem_map.1 hm
   exact mem_map.2 ⟨x,hmem x hx,hxe⟩
  ·rw[hgk];rfl
theorem Fy (h:BY C w a σ Lt cv fp) (hL:∀ b j,G1 fp b j→Lt b j) {x:Operand} {ty:Nat} {v:V} {us:List (Nat × AA)} (hx:AT x)
  (ht:FL C.E σ.g ty (AB σ.env x)=some (v,us)) :
  ∃ vs f,AD v.agg (a.eval x) vs∧R w C.Fz Lt σ.g v.p v.cs vs f∧Al σ.g v.p=true ∧
   ((us=[]∧f=[])∨∃ k s fr,us=[(k,s)]∧FA C w σ Lt cv fp f k s fr):=by
 unfold FL at ht
 split at ht
 ·simp at ht
 rename_i v' hv
 split at ht
 ·simp at ht
 rename_i hfirm
 simp only[Bool.not_eq_true,Bool.not_eq_false'] at hfirm
 split at ht
 ·rename_i hn
  simp only[zS,zP] at ht
  obtain ⟨rfl,rfl⟩:=ht
  obtain ⟨vs,f,h1,h2,-⟩:=Ag h hx hv
  have:=h2.noOwn hn
  subst this
  exact ⟨vs,[],h1,h2,hfirm,.inl ⟨rfl,rfl⟩⟩
 ·rename_i hno
  cases x with
  | const c =>
    simp only[AB,zS,zP] at ht
    obtain ⟨rfl,rfl⟩:=ht
    simp only[AB,AV] at hv
    obtain ⟨vs,h1,h2⟩:=Bu (w:=w) (Lt:=Lt) (Fz:=C.Fz) (g:=σ.g) hv
    exact ⟨vs,[],h1,h2,hfirm,.inl ⟨rfl,rfl⟩⟩
  | global=>simp[AB] at ht
  | func=>simp[AB] at ht
  | tmp t =>
    rw[Ay h hx]
    rw[AJ] at ht hv
    have hs:=h.slots t
    cases hg:AE σ.env t with
    | val ag p cs d pin =>
      simp only[hg] at ht hv
      simp only[AV,zS] at hv
      subst hv
      cases pin with
      | succ=>simp at ht
      | zero =>
        simp only[zS,zP] at ht
        obtain ⟨rfl,rfl⟩:=ht
        rw[hg] at hs
        obtain ⟨vs,h1,h2,-⟩:=hs
        refine ⟨vs,fp t,h1,h2,hfirm,.inr ⟨t,.gone,[],rfl,⟨fun _ _ _=>rfl,fun _ h=>h,by simp,by simpa using h.nodup t,rfl,fun _=>⟨AC.noRoot rfl,trivial⟩,?_⟩⟩⟩
        rw[hg]
        simp only at hno
        cases d <;>simp[A0,hno]
    | view k pl =>
      simp only[hg] at ht hv
      have hlk:=h.looks t k (by rw[hg];simp[AA.looks])
      split at ht
      ·rename_i hpath
       cases hroot:(AE σ.env k).root with
       | none=>simp[hroot] at ht
       | some pcd =>
         obtain ⟨p,cs,d⟩:=pcd
         simp only[hroot,zS,zP] at ht
         obtain ⟨rfl,rfl⟩:=ht
         simp only[AV,hroot] at hv
         split at hv
         ·simp at hv
         rename_i hst
         obtain ⟨el,rcs,a1,a2,-,-⟩:=Ac hv
         rw[hpath] at a1
         simp only[rowAt,zS,zP] at a1
         obtain ⟨rfl,rfl⟩:=a1
         have hpos:=JN a2 hno
         have hlen:v'.p.length=pl.n:=(An a2).2.1
         cases hpn:(AE σ.env k).pinned with
         | true =>
           obtain ⟨vs,f,fr,h1,h2,h3⟩:=JO h (p' :=List.replicate pl.n .dead) hg hpath hroot hst hv hpos (by simp)
            (fun vs f hR hsub=>R.deads (by have:=hR.length_eq;omega) (by have:=hR.length_eq;omega))
           exact ⟨vs,f,h1,h2,hfirm,.inr ⟨k,_,fr,by simp only[I7],h3⟩⟩
         | false =>
           obtain ⟨vs,f,fr,h1,h2,h3⟩:=JO h (p' :=lentifies σ.g v'.p) hg hpath hroot hst hv hpos (by rw[Ad];exact hlen)
            (fun vs f hR hsub=>hR.lentify (fun _ _ h=>h) (fun y hy j b1 b2 hl=>hL _ _ ⟨k,y,hsub y hy,rfl,hl,b1,b2⟩))
           have hat:I7 false σ.g p pl.c pl.n=BH p pl.c (lentifies σ.g v'.p):=by simp[I7,Qo,a2]
           rw[← hat] at h3
           exact ⟨vs,f,h1,h2,hfirm,.inr ⟨k,_,fr,rfl,h3⟩⟩
      ·rename_i hpath
       split at ht
       ·simp at ht
       rename_i hpos
       cases hroot:(AE σ.env k).root with
       | none=>simp[hroot] at ht
       | some pcd =>
         obtain ⟨p,cs,d⟩:=pcd
         simp only[hroot] at ht
         split at ht
         ·simp at ht
         rename_i el rcs hra
         split at ht
         ·simp at ht
         rename_i hs' hh
         simp only[zS,zP] at ht
         obtain ⟨rfl,rfl⟩:=ht
         simp only[AV,hroot] at hv
         split at hv
         ·simp at hv
         rename_i hst
         obtain ⟨vs,f,fr,h1,h2,h3⟩:=JB h hg (fun e=>hpath e) hroot hst hv hra hh (by
          rcases Nat.eq_zero_or_pos pl.n with h0 | h0
          ·exact absurd (by simp[h0]) hpos
          ·exact h0)
         exact ⟨vs,f,h1,h2,hfirm,.inr ⟨k,_,fr,rfl,h3⟩⟩
    | _=>simp[hg,AV] at hv
end
end Go.Desk
end
