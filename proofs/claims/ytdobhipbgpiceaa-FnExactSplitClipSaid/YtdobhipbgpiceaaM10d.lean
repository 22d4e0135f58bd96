/- FnExactSplitClip holds: for every input the law returns true, and its arguments read as before. -/
import Derived.Test.YtdobhipbgpiceaaChecked
import Derived.Shelf.SlicesE.Kit
import Derived.Shelf.RegionOpenPlain
import Derived.WalkKit
import Derived.Deep.LoopGhost
import Derived.Deep.RegionLaw
import Derived.Deep.MidRow
import Derived.Lib.Walk
import Derived.Sort.WalkB12
import Derived.Lib.SliceRun
import Derived.Lib.SlicesDelete
import Derived.Lib.SlicesMore
import Derived.Lib.SlicesCompact
import Derived.KernelRfl
import Derived.Shelf.Spec.SlicesInsertGrow
import Derived.Test.YtdobhipbgpiceaaRows
import Derived.ProofKit
import Derived.OpenShut
import Derived.ShutString
import Derived.ChangeOld
import Derived.Below
import Derived.SizedLaws
import Derived.Test.YtdobhipbgpiceaaM10c
set_option linter.all false
set_option linter.unusedVariables false
open List (all_cons all_eq_true any_eq_false any_eq_true append_assoc append_nil cons_append count_append drop_drop drop_eq_getElem_cons drop_eq_nil_of_le drop_left' drop_zero flatMap_append flatMap_cons flatMap_def flatten_cons flatten_nil foldl_cons length_append length_cons length_drop length_eq_one_iff length_eq_zero_iff length_set length_singleton length_take mapM_cons map_append map_congr_left map_cons map_nil mem_append mem_append_left mem_append_right mem_cons mem_cons_of_mem mem_cons_self mem_flatten mem_map mem_singleton nil_append nodup_append nodup_cons perm_append_comm perm_iff_count perm_middle replicate_succ take_append_drop take_left' take_length take_of_length_le take_succ_cons take_zero)
section
namespace Go.Desk
open Go
def p2 (e:Int):Rat:=(2:Rat) ^ e
theorem IM (e:Int):0<p2 e:=Rat.zpow_pos (by decide)
theorem Jh (a b:Int):p2 (a+b)=p2 a * p2 b:=Rat.zpow_add (by decide) a b
theorem GD:p2 0=1:=Rat.zpow_zero _
theorem NI (n:Nat):p2 (n:Int)=((2 ^ n:Nat):Rat):=by
 induction n with
 | zero=>exact GD
 | succ n ih =>
   rw[show ((n+1:Nat):Int)=(n:Int)+1 by omega,Jh,ih,Nat.pow_succ,Rat.natCast_mul,show p2 1=(2:Rat) from Rat.zpow_one _]
   rfl
theorem SA (n:Nat):1≤p2 (n:Int):=by
 rw[NI]
 have:1≤2 ^ n:=Nat.one_le_two_pow
 exact_mod_cast this
theorem J2 {a b:Int} (h:a≤b):p2 a≤p2 b:=by
 obtain ⟨n,hn⟩:=Int.eq_ofNat_of_zero_le (show 0≤b - a by omega)
 rw[show b=a+(n:Int) by omega,Jh]
 have:=Rat.mul_le_mul_of_nonneg_left (SA n) (Rat.le_of_lt (IM a))
 rwa [Rat.mul_one] at this
theorem So {a b:Int} (h:a<b):p2 a<p2 b:=by
 have h1:p2 (a+1)≤p2 b:=J2 (by omega)
 have h2:p2 (a+1)=p2 a * 2:=by rw[Jh,show p2 1=(2:Rat) from Rat.zpow_one _]
 have h3:=IM a
 grind
def mv (m:Nat) (e:Int):Rat:=(m:Rat) * p2 e
theorem A0 (m:Nat) (e:Int):0≤mv m e:=Rat.mul_nonneg (by exact_mod_cast Nat.zero_le m) (Rat.le_of_lt (IM e))
theorem Cj (e:Int):mv 0 e=0:=by unfold mv;rw[show ((0:Nat):Rat)=0 from rfl,Rat.zero_mul]
theorem BW (m k:Nat) (e:Int):mv (m * 2 ^ k) e=mv m (e+k):=by
 unfold mv
 rw[Rat.natCast_mul,Jh,NI]
 grind
theorem CY {m n:Nat} {e:Int}:mv m e≤mv n e↔m≤n:=by
 unfold mv
 constructor
 ·intro h
  have:=Rat.le_of_mul_le_mul_right h (IM e)
  exact_mod_cast this
 ·intro h
  exact Rat.mul_le_mul_of_nonneg_right (by exact_mod_cast h) (Rat.le_of_lt (IM e))
theorem Mx {m n:Nat} {e:Int}:mv m e<mv n e↔m<n:=by
 rw[← Rat.not_le,CY];omega
theorem WY (e:Int):mv 1 e=p2 e:=by unfold mv;rw[show ((1:Nat):Rat)=1 from rfl,Rat.one_mul]
theorem DQ (k:Nat) (e:Int):mv (2 ^ k) e=p2 (e+k):=by
 have:=BW 1 k e
 rw[Nat.one_mul] at this
 rw[this,WY]
theorem LE (s:Bool) (n d B:Nat):(n≤B * 2 ^ d→Ieee.Toward.cut .even s n d≤B)∧(B * 2 ^ d≤n→B≤Ieee.Toward.cut .even s n d):=by
 unfold Ieee.Toward.cut
 simp only[Nat.shiftLeft_eq,Nat.one_mul]
 rcases Nat.lt_or_ge (n.log2+2) d with hd | hd
 ·rw[Nat.min_eq_right (Nat.le_of_lt hd)]
  have h1:n<2 ^ (n.log2+1):=Nat.lt_log2_self
  have h2:2 ^ (n.log2+2)=2 * 2 ^ (n.log2+1):=by rw[Nat.pow_succ];omega
  have h3:n<2 ^ (n.log2+2):=by omega
  rw[Nat.div_eq_of_lt h3,Nat.mod_eq_of_lt h3]
  have hm:(decide (2 ^ (n.log2+2)<2 * n)||(2 ^ (n.log2+2)==2 * n&&(0:Nat) % 2==1))=false:=by
   simp;omega
  rw[hm]
  constructor
  ·intro _;exact Nat.zero_le _
  ·intro h
   have h4:2 ^ (n.log2+2)≤2 ^ d:=Nat.pow_le_pow_right (by decide) (by omega)
   rcases Nat.eq_zero_or_pos B with rfl | hB
   ·exact Nat.zero_le _
   ·have:2 ^ d≤B * 2 ^ d:=Nat.le_mul_of_pos_left _ hB
    omega
 ·rw[Nat.min_eq_left hd]
  have hg:0<2 ^ d:=Nat.two_pow_pos d
  generalize 2 ^ d=g at hg ⊢
  have hn:g * (n / g)+n % g=n:=Nat.div_add_mod n g
  have hr:n % g<g:=Nat.mod_lt _ hg
  generalize hq:n / g=q at hn ⊢
  generalize hrr:n % g=r at hn hr ⊢
  constructor
  ·intro h
   cases hm:(decide (g<2 * r)||(g==2 * r&&q % 2==1))
   ·simp only[Bool.toNat_false,Nat.add_zero]
    have:g * q≤B * g:=by omega
    rw[Nat.mul_comm] at this
    exact Nat.le_of_mul_le_mul_right this hg
   ·simp only[Bool.toNat_true]
    have hr0:0<r:=by
     simp only[Bool.or_eq_true,decide_eq_true_eq,zB,beq_iff_eq] at hm
     omega
    have:g * q<g * B:=by rw[Nat.mul_comm g B];omega
    exact Nat.lt_of_mul_lt_mul_left this
  ·intro h
   have:B≤q:=by
    rw[← hq]
    exact (Nat.le_div_iff_mul_le hg).2 h
   omega
def sg (s:Bool) (v:Rat):Rat:=if s then -v else v
def fval (k:FloatKind) (x:Nat):Rat:=match k.decode x with
 | .number s m e=>sg s (mv m e)
 | _=>0
def FX (k:FloatKind) (B:Rat):Prop:=∃ M P,M≤2 * k.format.binade∧k.format.leastPlace≤P∧B=mv M P
def JD:FloatKind→Int
 | .f32=>128
 | .f64=>1024
theorem YD (k:FloatKind):∃ K:Nat,2≤K∧k.format.infRung=K * k.format.binade∧JD k=k.format.leastPlace+(k.format.fractionBits:Int)+(K:Int) - 1∧k.format.infRung<k.format.signWeight∧k.format.binade=2 ^ k.format.fractionBits:=by
 cases k
 ·exact ⟨255,by decide,by decide,by decide,by decide,rfl⟩
 ·exact ⟨2047,by decide,by decide,by decide,by decide,rfl⟩
theorem Sd {f:Ieee.Format} {s:Bool} {r:Nat} (h:r<f.signWeight):(f.word s r / f.signWeight % 2==1)=s:=by
 have hp:0<f.signWeight:=by omega
 unfold Ieee.Format.word
 cases s
 ·simp[Nat.div_eq_of_lt h]
 ·simp only[if_true]
  rw[Nat.add_div_left _ hp,Nat.div_eq_of_lt h];rfl
theorem Ry {f:Ieee.Format} {s:Bool} {r:Nat} (h:r<f.signWeight):f.word s r % f.signWeight=r:=by
 unfold Ieee.Format.word
 split
 ·rw[Nat.add_mod_left,Nat.mod_eq_of_lt h]
 ·rw[Nat.mod_eq_of_lt h]
theorem Mu (k:FloatKind) (s:Bool) {j kept:Nat} (h1:kept≤2 * k.format.binade) (h2:0<j→k.format.binade≤kept) (h3:j * k.format.binade+kept<k.format.infRung) :
  ∃ m e,k.format.read (k.format.word s (j * k.format.binade+kept)) = .number s m e∧mv m e=mv kept (k.format.leastPlace+(j:Int))∧m≤2 * k.format.binade∧k.format.leastPlace≤e:=by
 obtain ⟨K,-,-,-,hw,hb⟩:=YD k
 have hbp:0<k.format.binade:=by rw[hb];exact Nat.two_pow_pos _
 have hr:j * k.format.binade+kept<k.format.signWeight:=by omega
 unfold Ieee.Format.read
 simp only[Sd hr,Ry hr]
 generalize hbb:k.format.binade=b at *
 by_cases c1:j * b+kept<b
 ·rw[if_pos c1]
  have hj:j=0:=by
   rcases Nat.eq_zero_or_pos j with h | h
   ·exact h
   ·have:=Nat.le_mul_of_pos_left b h;omega
  subst hj
  refine ⟨_,_,rfl,?_,by omega,Int.le_refl _⟩
  rw[Nat.zero_mul,Nat.zero_add];simp
 ·rw[if_neg c1,if_pos h3]
  rcases Nat.lt_or_ge kept b with hk | hk
  ·rcases Nat.eq_zero_or_pos j with h | h
   ·subst h;omega
   ·have:=h2 h;omega
  ·rcases Nat.lt_or_ge kept (2 * b) with hk2 | hk2
   ·have e1:(j * b+kept) / b=j+1:=by
     rw[show j * b+kept=(kept - b)+b * (j+1) by rw[Nat.mul_add,Nat.mul_comm b j];omega,Nat.add_mul_div_left _ _ hbp,Nat.div_eq_of_lt (by omega)];omega
    have e2:(j * b+kept) % b=kept - b:=by
     rw[show j * b+kept=(kept - b)+b * (j+1) by rw[Nat.mul_add,Nat.mul_comm b j];omega,Nat.add_mul_mod_self_left,Nat.mod_eq_of_lt (by omega)]
    refine ⟨_,_,rfl,?_,by rw[e2];omega,by rw[e1];omega⟩
    rw[e1,e2,show b+(kept - b)=kept by omega,Nat.add_sub_cancel]
   ·have hk3:kept=2 * b:=by omega
    subst hk3
    have e1:(j * b+2 * b) / b=j+2:=by rw[← Nat.add_mul,Nat.mul_div_cancel _ hbp]
    have e2:(j * b+2 * b) % b=0:=by rw[← Nat.add_mul,Nat.mul_mod_left]
    refine ⟨_,_,rfl,?_,by rw[e2];omega,by rw[e1];omega⟩
    rw[e1,e2,Nat.add_zero,show (j+2 - 1:Nat)=j+1 by omega,show 2 * b=b * 2 ^ 1 by omega,BW]
    congr 1;omega
theorem Me (k:FloatKind) (s:Bool) (m:Nat) (e:Int) {B0:Rat} (hB0:FX k B0) (hv:mv m e≤B0) (hf:B0<p2 (JD k)) :
  ∃ m' e',k.format.read (k.format.nearest s m e) = .number s m' e'∧m'≤2 * k.format.binade∧k.format.leastPlace≤e'∧∀ B,FX k B→(mv m e≤B→mv m' e'≤B)∧(B≤mv m e→B≤mv m' e'):=by
 obtain ⟨K,hK,hinf,htop,hw,hb⟩:=YD k
 have hbp:0<k.format.binade:=by rw[hb];exact Nat.two_pow_pos _
 unfold Ieee.Format.nearest
 by_cases hm:m=0
 ·subst hm
  rw[if_pos rfl]
  have h3:0 * k.format.binade+0<k.format.infRung:=by rw[hinf,Nat.zero_mul,Nat.zero_add];exact Nat.mul_pos (by omega) hbp
  obtain ⟨m',e',r1,r2,r3,r4⟩:=Mu k s (j:=0) (kept:=0) (Nat.zero_le _) (by omega) h3
  rw[Nat.zero_mul] at r1
  refine ⟨m',e',r1,r3,r4,fun B _ => ?_⟩
  rw[r2,Cj,Cj]
  exact ⟨id,id⟩
 rw[if_neg hm]
 generalize hla:max (e+(m.log2:Int) - (k.format.fractionBits:Int)) k.format.leastPlace=last
 have hl1:k.format.leastPlace≤last:=by omega
 have hl2:e+(m.log2:Int) - (k.format.fractionBits:Int)≤last:=by omega
 have hl3:last≠k.format.leastPlace→last=e+(m.log2:Int) - (k.format.fractionBits:Int):=by omega
 simp only
 generalize hn:m <<< (e - last).toNat=n
 generalize hd:(last - e).toNat=d
 have hval:mv n (last - (d:Int))=mv m e:=by
  rw[← hn,Nat.shiftLeft_eq,BW]
  congr 1;omega
 have hlow:p2 (e+(m.log2:Int))≤mv m e:=by
  have:2 ^ m.log2≤m:=Nat.log2_self_le hm
  have h:=(CY (e:=e)).2 this
  rwa [DQ] at h
 have hhigh:mv m e<p2 (e+(m.log2:Int)+1):=by
  have:m<2 ^ (m.log2+1):=Nat.lt_log2_self
  have h:=(Mx (e:=e)).2 this
  rw[DQ] at h
  rw[show e+(m.log2:Int)+1=e+((m.log2+1:Nat):Int) by omega];exact h
 generalize hk:Ieee.Toward.cut .even s n d=kept
 have hcut:∀ B:Nat,(mv m e≤mv B last→mv kept last≤mv B last)∧(mv B last≤mv m e→mv B last≤mv kept last):=by
  intro B
  have hB:mv B last=mv (B * 2 ^ d) (last - (d:Int)):=by rw[BW];congr 1;omega
  have:=LE s n d B
  rw[hk] at this
  rw[CY,CY]
  rw[← hval,hB,CY,CY]
  exact this
 have hkb:kept≤2 * k.format.binade:=by
  have h:=(hcut (2 * k.format.binade)).1 (by
   rw[hb,show 2 * 2 ^ k.format.fractionBits=2 ^ (k.format.fractionBits+1) by rw[Nat.pow_succ];omega,DQ]
   refine Rat.le_trans (Rat.le_of_lt hhigh) (J2 ?_)
   omega)
  exact CY.1 h
 have hkl:last≠k.format.leastPlace→k.format.binade≤kept:=by
  intro h
  have h:=(hcut k.format.binade).2 (by
   rw[hb,DQ]
   refine Rat.le_trans (J2 ?_) hlow
   have:=hl3 h
   omega)
  exact CY.1 h
 have key:∀ B,FX k B→(mv m e≤B→mv kept last≤B)∧(B≤mv m e→B≤mv kept last):=by
  rintro B ⟨M,P,hM,hP,rfl⟩
  by_cases hPl:last≤P
  ·have hB:mv M P=mv (M * 2 ^ (P - last).toNat) last:=by rw[BW];congr 1;omega
   rw[hB];exact hcut _
  ·have hl4:=hl3 (by omega)
   have hMB:mv M P≤mv k.format.binade last:=by
    refine Rat.le_trans (CY.2 hM) ?_
    rw[hb,show 2 * 2 ^ k.format.fractionBits=2 ^ (k.format.fractionBits+1) by rw[Nat.pow_succ];omega,DQ,DQ]
    exact J2 (by omega)
   have hBm:mv k.format.binade last≤mv m e:=by
    rw[hb,DQ]
    exact Rat.le_trans (J2 (by omega)) hlow
   constructor
   ·intro h
    have h1:mv m e≤mv k.format.binade last:=Rat.le_trans h hMB
    exact Rat.le_trans ((hcut _).1 h1) (Rat.le_trans hBm h)
   ·intro _
    exact Rat.le_trans hMB ((hcut _).2 hBm)
 have hfin:(last - k.format.leastPlace).toNat * k.format.binade+kept<k.format.infRung:=by
  rcases Nat.lt_or_ge ((last - k.format.leastPlace).toNat * k.format.binade+kept) k.format.infRung with h | h
  ·exact h
  ·exfalso
   have hR:mv kept last<p2 (JD k):=by
    have h1:=(key B0 hB0).1 hv
    grind
   rw[hinf] at h
   generalize hj:(last - k.format.leastPlace).toNat=j at h
   generalize hbb:k.format.binade=b at *
   have hj2:K≤j+2:=by
    rcases Nat.lt_or_ge (j+2) K with h' | h'
    ·have:(j+3) * b≤K * b:=Nat.mul_le_mul_right _ h'
     rw[Nat.add_mul] at this
     omega
    ·exact h'
   have hge:p2 (JD k)≤mv kept last:=by
    rcases Nat.lt_or_ge j (K - 1) with h' | h'
    ·have hj3:K=j+2:=by omega
     subst hj3
     rw[Nat.add_mul] at h
     have:kept=2 ^ (k.format.fractionBits+1):=by rw[Nat.pow_succ,← hb];omega
     rw[this,DQ]
     exact J2 (by omega)
    ·have:mv (2 ^ k.format.fractionBits) last≤mv kept last:=CY.2 (by rw[← hb];exact hkl (by omega))
     refine Rat.le_trans ?_ this
     rw[DQ]
     exact J2 (by omega)
   grind
 rw[Nat.min_eq_left (Nat.le_of_lt hfin)]
 obtain ⟨m',e',r1,r2,r3,r4⟩:=Mu k s hkb (fun h=>hkl (by omega)) hfin
 refine ⟨m',e',r1,r3,r4,fun B hB => ?_⟩
 rw[r2,show k.format.leastPlace+((last - k.format.leastPlace).toNat:Int)=last by omega]
 exact key B hB
theorem Nu (a b:Nat) (e f:Int):mv (a * b) (e+f)=mv a e * mv b f:=by
 unfold mv;rw[Rat.natCast_mul,Jh];grind
def Wg (k:FloatKind) (B:Rat):Prop:=∃ s C,FX k C∧B=sg s C
theorem CV (v:Rat):sg false v=v:=rfl
theorem FM (v:Rat):sg true v = -v:=rfl
theorem J6 {k:FloatKind} {B:Rat} (h:FX k B):0≤B:=by
 obtain ⟨M,P,-,-,rfl⟩:=h;exact A0 _ _
theorem FX.rep {k:FloatKind} {B:Rat} (h:FX k B):Wg k B:=⟨false,B,h,rfl⟩
theorem FX.neg {k:FloatKind} {B:Rat} (h:FX k B):Wg k (-B):=⟨true,B,h,rfl⟩
def EO (k:FloatKind) (x:Nat) (v:Rat):Prop:=∃ s m e,k.decode x = .number s m e∧v=sg s (mv m e)∧m≤2 * k.format.binade∧k.format.leastPlace≤e
theorem EO.rep {k:FloatKind} {x:Nat} {v:Rat} (h:EO k x v):Wg k v:=by
 obtain ⟨s,m,e,-,rfl,h1,h2⟩:=h
 exact ⟨s,_,⟨m,e,h1,h2,rfl⟩,rfl⟩
theorem EO.inj {k:FloatKind} {x:Nat} {v w:Rat} (h:EO k x v) (h':EO k x w):v=w:=by
 obtain ⟨s,m,e,h1,rfl,-⟩:=h
 obtain ⟨s',m',e',h2,rfl,-⟩:=h'
 rw[h1] at h2;cases h2;rfl
def Jr (k:FloatKind) (v R:Rat):Prop:=∀ B,Wg k B→(v≤B→R≤B)∧(B≤v→B≤R)
theorem Fw (k:FloatKind) (s:Bool) (m:Nat) (e:Int) {B0:Rat} (hB0:FX k B0) (hv:mv m e≤B0) (hf:B0<p2 (JD k)) :
  ∃ R,EO k (k.encode (.number s m e)) R∧Jr k (sg s (mv m e)) R:=by
 obtain ⟨m',e',r1,r2,r3,r4⟩:=Me k s m e hB0 hv hf
 refine ⟨sg s (mv m' e'),⟨s,m',e',r1,rfl,r2,r3⟩,?_⟩
 rintro B ⟨t,C,hC,rfl⟩
 obtain ⟨c1,c2⟩:=r4 C hC
 have hC0:=J6 hC
 have h0:=A0 m e
 have h0' :=A0 m' e'
 have hz:mv m e≤0→mv m' e'≤0:=by
  intro h
  have hz:FX k 0:=⟨0,k.format.leastPlace,Nat.zero_le _,Int.le_refl _,(Cj _).symm⟩
  exact (r4 0 hz).1 h
 cases s <;>cases t <;>simp only[sg] <;>constructor <;>intro h <;>simp only[Bool.false_eq_true,if_false,if_true] at * <;>grind
theorem EO.near_eq {k:FloatKind} {x:Nat} {v R:Rat} (h:EO k x R) (hn:Jr k v R) (hv:Wg k v):EO k x v:=by
 have h1:=(hn v hv).1 Rat.le_refl
 have h2:=(hn v hv).2 Rat.le_refl
 have:v=R:=by grind
 rw[this];exact h
theorem EO.num {k:FloatKind} {x:Nat} {v:Rat} (h:EO k x v):isNaN k x=false:=by
 obtain ⟨s,m,e,h1,-⟩:=h
 unfold isNaN;rw[h1];rfl
theorem CX (s:Bool) (m up:Nat) (b:Int):((Ieee.signed s m up:Int):Rat) * p2 b=sg s (mv m (b+(up:Int))):=by
 rw[← BW]
 unfold Ieee.signed sg mv
 rw[Nat.shiftLeft_eq]
 cases s <;>simp only[Bool.false_eq_true,if_false,if_true]
 ·rw[Rat.intCast_natCast]
 ·rw[Rat.intCast_neg,Rat.intCast_natCast];grind
theorem JT (t:Int) (c:Bool) (b:Int):sg (if t=0 then c else decide (t<0)) (mv t.natAbs b)=(t:Rat) * p2 b:=by
 by_cases h0:t=0
 ·subst h0
  rw[if_pos rfl]
  simp only[Int.natAbs_zero,Cj,sg,Rat.intCast_zero,Rat.zero_mul]
  cases c <;>simp
 ·rw[if_neg h0]
  by_cases h1:t<0
  ·rw[decide_eq_true h1]
   have:(t:Rat) = -((t.natAbs:Nat):Rat):=by rw[← Rat.intCast_natCast,← Rat.intCast_neg];congr 1;omega
   rw[this]
   simp only[sg,if_true,mv];grind
  ·rw[decide_eq_false h1]
   have:(t:Rat)=((t.natAbs:Nat):Rat):=by rw[← Rat.intCast_natCast];congr 1;omega
   rw[this]
   simp only[sg,Bool.false_eq_true,if_false,mv]
theorem Yk {a b c:Rat} (h1:a≤b) (h2:b<c):a<c:=by grind
theorem OC {s:Bool} {c B:Rat} (_:0≤c) (h1:sg s c≤B) (h2 : -B≤sg s c):c≤B:=by
 cases s <;>simp only[sg,Bool.false_eq_true,if_false,if_true] at * <;>grind
theorem Qk {k:FloatKind} {x y:Nat} {a b B:Rat} (hx:EO k x a) (hy:EO k y b) (hB:FX k B) (hf:B<p2 (JD k)) (h1:a+b≤B) (h2 : -B≤a+b) :
  ∃ R,EO k (E9 k x y) R∧Jr k (a+b) R:=by
 obtain ⟨s,m,i,e1,rfl,-⟩:=hx
 obtain ⟨t,n,j,e2,rfl,-⟩:=hy
 have e1:k.format.read x = .number s m i:=e1
 have e2:k.format.read y = .number t n j:=e2
 generalize hb:min i j=base
 generalize ht:Ieee.signed s m (i - base).toNat+Ieee.signed t n (j - base).toNat=total
 have hadd:E9 k x y=k.encode (.number (if total=0 then s&&t else total<0) total.natAbs base):=by
  simp only[E9,Ieee.Format.add,e1,e2,Ieee.Datum.sum,Option.map_some,hb,ht]
  rfl
 have hval:sg (if total=0 then s&&t else decide (total<0)) (mv total.natAbs base)=sg s (mv m i)+sg t (mv n j):=by
  rw[JT,← ht,Rat.intCast_add,Rat.add_mul,CX,CX]
  congr 2 <;>congr 1 <;>omega
 rw[hadd,← hval]
 exact Fw k _ _ _ hB (OC (A0 _ _) (by rw[hval];exact h1) (by rw[hval];exact h2)) hf
theorem Qm {k:FloatKind} {x y:Nat} {a b B:Rat} (hx:EO k x a) (hy:EO k y b) (hB:FX k B) (hf:B<p2 (JD k)) (h1:a * b≤B) (h2 : -B≤a * b) :
  ∃ R,EO k (Co k x y) R∧Jr k (a * b) R:=by
 obtain ⟨s,m,i,e1,rfl,-⟩:=hx
 obtain ⟨t,n,j,e2,rfl,-⟩:=hy
 have e1:k.format.read x = .number s m i:=e1
 have e2:k.format.read y = .number t n j:=e2
 have hmul:Co k x y=k.encode (.number (s ^^ t) (m * n) (i+j)):=by
  simp only[Co,Ieee.Format.mul,e1,e2,Ieee.Datum.product,Option.map_some]
  rfl
 have hval:sg (s ^^ t) (mv (m * n) (i+j))=sg s (mv m i) * sg t (mv n j):=by
  rw[Nu]
  cases s <;>cases t <;>simp[sg] <;>grind
 rw[hmul,← hval]
 exact Fw k _ _ _ hB (OC (A0 _ _) (by rw[hval];exact h1) (by rw[hval];exact h2)) hf
theorem Fx {k:FloatKind} {x y:Nat} {a b:Rat} (hx:EO k x a) (hy:EO k y b):(k.format.order x y=some .lt↔a<b)∧(k.format.order x y=some .eq↔a=b)∧(k.format.order x y=some .gt↔b<a):=by
 obtain ⟨s,m,i,e1,rfl,-⟩:=hx
 obtain ⟨t,n,j,e2,rfl,-⟩:=hy
 have e1:k.format.read x = .number s m i:=e1
 have e2:k.format.read y = .number t n j:=e2
 generalize hb:min i j=base
 have ha:sg s (mv m i)=((Ieee.signed s m (i - base).toNat:Int):Rat) * p2 base:=by rw[CX];congr 2;omega
 have hc:sg t (mv n j)=((Ieee.signed t n (j - base).toNat:Int):Rat) * p2 base:=by rw[CX];congr 2;omega
 rw[ha,hc]
 have ho:k.format.order x y=some (compare (Ieee.signed s m (i - base).toNat) (Ieee.signed t n (j - base).toNat)):=by
  simp only[Ieee.Format.order,e1,e2,Ieee.Datum.order,hb]
 rw[ho]
 generalize Ieee.signed s m (i - base).toNat=u
 generalize Ieee.signed t n (j - base).toNat=v
 have hlt:∀ p q:Int,(p:Rat) * p2 base<(q:Rat) * p2 base↔p<q:=fun p q=>by rw[Rat.mul_lt_mul_right (IM _),Rat.intCast_lt_intCast]
 have heq:((u:Rat) * p2 base=(v:Rat) * p2 base)↔u=v:=by
  constructor
  ·intro h
   rcases Int.lt_trichotomy u v with h1 | h1 | h1
   ·have:=(hlt u v).2 h1;grind
   ·exact h1
   ·have:=(hlt v u).2 h1;grind
  ·rintro rfl;rfl
 rw[hlt,hlt,heq]
 have hc:(u<v∧compare u v = .lt)∨(u=v∧compare u v = .eq)∨(v<u∧compare u v = .gt):=by
  rcases Int.lt_trichotomy u v with h1 | h1 | h1
  ·exact .inl ⟨h1,by simp[compare,compareOfLessAndEq,h1]⟩
  ·subst h1;exact .inr (.inl ⟨rfl,by simp[compare,compareOfLessAndEq]⟩)
  ·exact .inr (.inr ⟨h1,by simp only[compare,compareOfLessAndEq];rw[if_neg (by omega),if_neg (by omega)]⟩)
 rcases hc with ⟨h,e⟩ | ⟨h,e⟩ | ⟨h,e⟩ <;>rw[e] <;>simp <;>omega
theorem T6 {k:FloatKind} {x y:Nat} {a b:Rat} (hx:EO k x a) (hy:EO k y b):UE k x y=true↔a≤b:=by
 have h1:=(Fx hx hy).1
 have h2:=(Fx hx hy).2.1
 simp only[UE,Bool.or_eq_true,beq_iff_eq,h1,h2]
 grind
theorem UH {k:FloatKind} {x y:Nat} {a b:Rat} (hx:EO k x a) (hy:EO k y b):Su k x y=true↔b≤a:=by
 have h1:=(Fx hx hy).2.2
 have h2:=(Fx hx hy).2.1
 simp only[Su,Bool.or_eq_true,beq_iff_eq,h1,h2]
 grind
theorem SM (s:Bool) (n d:Nat):Ieee.Toward.cut .zero s n d=n / 2 ^ d:=by
 unfold Ieee.Toward.cut
 simp only[Nat.shiftLeft_eq,Nat.one_mul,Bool.toNat_false,Nat.add_zero]
 rcases Nat.lt_or_ge (n.log2+2) d with hd | hd
 ·rw[Nat.min_eq_right (Nat.le_of_lt hd)]
  have h1:n<2 ^ (n.log2+1):=Nat.lt_log2_self
  have h2:2 ^ (n.log2+1)≤2 ^ (n.log2+2):=Nat.pow_le_pow_right (by decide) (by omega)
  have h3:2 ^ (n.log2+1)≤2 ^ d:=Nat.pow_le_pow_right (by decide) (by omega)
  rw[Nat.div_eq_of_lt (by omega),Nat.div_eq_of_lt (by omega)]
 ·rw[Nat.min_eq_left hd]
theorem ER {k:FloatKind} {n:Int} (hn:n.natAbs≤2 * k.format.binade):EO k (k.nearest n) (n:Rat):=by
 have hm:FX k (mv n.natAbs 0):=⟨n.natAbs,0,hn,by cases k <;>decide,rfl⟩
 have hval:sg (decide (n<0)) (mv n.natAbs 0)=(n:Rat):=by
  have:=JT n (decide (n<0)) 0
  rw[GD,Rat.mul_one] at this
  rw[← this]
  congr 1
  by_cases h:n=0
  ·rw[if_pos h]
  ·rw[if_neg h]
 have hlt:mv n.natAbs 0<p2 (JD k):=by
  have h1:mv n.natAbs 0≤mv (2 * k.format.binade) 0:=CY.2 hn
  cases k
  ·exact Yk h1 (by rw[show 2 * FloatKind.f32.format.binade=2 ^ 24 by decide,DQ];exact So (by decide))
  ·exact Yk h1 (by rw[show 2 * FloatKind.f64.format.binade=2 ^ 53 by decide,DQ];exact So (by decide))
 obtain ⟨R,h1,h2⟩:=Fw k (decide (n<0)) n.natAbs 0 hm Rat.le_refl hlt
 have h3:EO k (k.nearest n) R:=h1
 rw[hval] at h2
 refine h3.near_eq h2 ⟨decide (n<0),_,hm,hval.symm⟩
theorem T2 {k:FloatKind} {Q v:Rat} (hQ:0≤Q) (hv:0≤v) (h:∀ C,FX k C→(Q≤C→v≤C)∧(C≤Q→C≤v)) (s:Bool):Jr k (sg s Q) (sg s v):=by
 rintro B ⟨t,C,hC,rfl⟩
 obtain ⟨c1,c2⟩:=h C hC
 have hC0:=J6 hC
 have hz:Q≤0→v≤0:=(h 0 ⟨0,k.format.leastPlace,Nat.zero_le _,Int.le_refl _,(Cj _).symm⟩).1
 cases s <;>cases t <;>simp only[sg] <;>constructor <;>intro h <;>simp only[Bool.false_eq_true,if_false,if_true] at * <;>grind
theorem Jr.trans {k:FloatKind} {a b c:Rat} (h:Jr k a b) (h':Jr k b c):Jr k a c:=fun B hB=>⟨fun h1=>(h' B hB).1 ((h B hB).1 h1),fun h1=>(h' B hB).2 ((h B hB).2 h1)⟩
theorem QZ (k:FloatKind) {m n:Nat} {i j:Int} (hn:n≠0) {more q:Nat} {st:Bool} (hmore:k.format.fractionBits+2+n.log2≤more+m.log2) (hq:(m <<< more) / n=q) (hst:((m <<< more) % n != 0)=st) {C:Rat} (hC:FX k C) :
  (mv m i≤C * mv n j→mv (2 * q+st.toNat) (i - j - more - 1)≤C)∧(C * mv n j≤mv m i→C≤mv (2 * q+st.toNat) (i - j - more - 1)):=by
 obtain ⟨-,-,-,-,-,hb⟩:=YD k
 obtain ⟨M,P,hM,hP,rfl⟩:=hC
 generalize hu:i - j - (more:Int)=u
 rw[Nat.shiftLeft_eq] at hq hst
 generalize hdv:m * 2 ^ more=dv at hq hst
 have hmv:mv m i=mv dv (u+j):=by rw[← hdv,BW];congr 1;omega
 have hdm:=Nat.div_add_mod dv n
 rw[hq] at hdm
 have hml:=Nat.mod_lt dv (Nat.pos_of_ne_zero hn)
 have hstr:(st=true→0<dv % n)∧(st=false→dv % n=0):=by
  rw[← hst]
  constructor <;>intro h <;>simp at h <;>omega
 have hst1:=Bool.toNat_le st
 have h2:∀ c,mv c u=mv (2 * c) (u - 1):=fun c=>by rw[show 2 * c=c * 2 ^ 1 by omega,BW];congr 1;omega
 by_cases hPu:u≤P
 ·have hC:mv M P=mv (M * 2 ^ (P - u).toNat) u:=by rw[BW];congr 1;omega
  rw[hC]
  generalize M * 2 ^ (P - u).toNat=M'
  rw[hmv,← Nu,CY,CY,h2 M',CY,CY]
  constructor
  ·intro h
   have h3:n * q≤n * M' :=by rw[Nat.mul_comm n M'];omega
   have h4:=Nat.le_of_mul_le_mul_left h3 (Nat.pos_of_ne_zero hn)
   cases st
   ·simp only[Bool.toNat_false];omega
   ·have h5:n * q<n * M' :=by rw[Nat.mul_comm n M'];have:=hstr.1 rfl;omega
    have h6:=Nat.lt_of_mul_lt_mul_left h5
    simp only[Bool.toNat_true];omega
  ·intro h
   have:M'≤q:=by
    rw[← hq];exact (Nat.le_div_iff_mul_le (Nat.pos_of_ne_zero hn)).2 h
   omega
 ·by_cases hm:m=0
  ·subst hm
   have hd0:dv=0:=by rw[← hdv,Nat.zero_mul]
   subst hd0
   have hq0:q=0:=by rw[← hq,Nat.zero_div]
   subst hq0
   have:st=false:=by rw[← hst];simp
   subst this
   simp only[Bool.toNat_false,Nat.mul_zero,Nat.add_zero,Cj]
   refine ⟨fun _=>A0 _ _,fun h => ?_⟩
   rcases Nat.eq_zero_or_pos M with h0 | h0
   ·subst h0;rw[Cj];exact Rat.le_refl
   ·exfalso
    rw[← Nu] at h
    have h5:mv 0 (P+j)<mv (M * n) (P+j):=Mx.2 (Nat.mul_pos h0 (Nat.pos_of_ne_zero hn))
    rw[Cj] at h5
    grind
  ·have hdl:2 ^ (k.format.fractionBits+2+n.log2)≤dv:=by
    have h3:2 ^ (m.log2+more)≤dv:=by
     rw[Nat.pow_add,← hdv]
     exact Nat.mul_le_mul_right _ (Nat.log2_self_le hm)
    exact Nat.le_trans (Nat.pow_le_pow_right (by decide) (by omega)) h3
   have hql:2 ^ (k.format.fractionBits+1)≤q:=by
    rw[← hq,Nat.le_div_iff_mul_le (Nat.pos_of_ne_zero hn)]
    have h4:n<2 ^ (n.log2+1):=Nat.lt_log2_self
    have h5:2 ^ (k.format.fractionBits+1) * n≤2 ^ (k.format.fractionBits+1) * 2 ^ (n.log2+1):=Nat.mul_le_mul_left _ (Nat.le_of_lt h4)
    rw[← Nat.pow_add,show k.format.fractionBits+1+(n.log2+1)=k.format.fractionBits+2+n.log2 by omega] at h5
    omega
   have hCu:mv M P≤mv (2 ^ k.format.fractionBits) u:=by
    refine Rat.le_trans (CY.2 hM) ?_
    rw[hb,show 2 * 2 ^ k.format.fractionBits=2 ^ (k.format.fractionBits+1) by rw[Nat.pow_succ];omega,DQ,DQ]
    exact J2 (by omega)
   have hpw:2 ^ k.format.fractionBits<2 ^ (k.format.fractionBits+1):=by rw[Nat.pow_succ];have:=Nat.two_pow_pos k.format.fractionBits;omega
   have hle:mv M P≤mv (2 * q+st.toNat) (u - 1):=by
    refine Rat.le_trans hCu ?_
    rw[h2,CY];omega
   refine ⟨fun h => ?_,fun _=>hle⟩
   exfalso
   have h6:mv M P * mv n j≤mv (2 ^ k.format.fractionBits) u * mv n j:=Rat.mul_le_mul_of_nonneg_right hCu (A0 _ _)
   have h7:=Rat.le_trans h h6
   rw[hmv,← Nu,CY] at h7
   have h8:2 ^ (k.format.fractionBits+1) * n≤q * n:=Nat.mul_le_mul_right _ hql
   have h9:2 ^ k.format.fractionBits * n<2 ^ (k.format.fractionBits+1) * n:=Nat.mul_lt_mul_of_pos_right hpw (Nat.pos_of_ne_zero hn)
   rw[Nat.mul_comm q n] at h8
   omega
theorem UU {k:FloatKind} {x y:Nat} {a b B:Rat} (hx:EO k x a) (hy:EO k y b) (hb:b≠0) (hB:FX k B) (hf:B<p2 (JD k)) (h1:a / b≤B) (h2 : -B≤a / b) :
  ∃ R,EO k (fdiv k x y) R∧Jr k (a / b) R:=by
 obtain ⟨s,m,i,e1,rfl,-⟩:=hx
 obtain ⟨t,n,j,e2,rfl,-⟩:=hy
 have e1:k.format.read x = .number s m i:=e1
 have e2:k.format.read y = .number t n j:=e2
 have hn:n≠0:=by
  rintro rfl
  apply hb
  rw[Cj];cases t <;>simp[sg]
 generalize hmo:k.format.fractionBits+2+n.log2 - m.log2=more
 generalize hq:(m <<< more) / n=q
 generalize hst:((m <<< more) % n != 0)=st
 have hdiv:fdiv k x y=k.encode (.number (s ^^ t) (2 * q+st.toNat) (i - j - more - 1)):=by
  simp only[fdiv,Ieee.Format.div,e1,e2,Ieee.Datum.quotient,if_neg hn,hmo,hq,hst,Option.map_some]
  rfl
 have hnp:0<mv n j:=by have:=(Mx (e:=j)).2 (Nat.pos_of_ne_zero hn);rwa [Cj] at this
 have hval:sg s (mv m i) / sg t (mv n j)=sg (s ^^ t) (mv m i / mv n j):=by
  cases s <;>cases t <;>simp[sg] <;>grind
 have hcan:mv m i / mv n j * mv n j=mv m i:=by rw[Rat.div_mul_cancel];grind
 have hQ:0≤mv m i / mv n j:=by
  have h3:=A0 m i
  rcases Rat.le_total (a:=0) (b:=mv m i / mv n j) with h | h
  ·exact h
  ·have h4:mv m i / mv n j * mv n j≤0 * mv n j:=Rat.mul_le_mul_of_nonneg_right h (Rat.le_of_lt hnp)
   rw[hcan,Rat.zero_mul] at h4
   have h5:mv m i=0:=by grind
   rw[h5,Rat.div_def,Rat.zero_mul];exact Rat.le_refl
 have hside:∀ C,FX k C→(mv m i / mv n j≤C→mv (2 * q+st.toNat) (i - j - more - 1)≤C)∧(C≤mv m i / mv n j→C≤mv (2 * q+st.toNat) (i - j - more - 1)):=by
  intro C hC
  obtain ⟨c1,c2⟩:=QZ k (i:=i) (j:=j) hn (by omega) hq hst hC
  constructor
  ·intro h
   have:=Rat.mul_le_mul_of_nonneg_right h (Rat.le_of_lt hnp)
   rw[hcan] at this
   exact c1 this
  ·intro h
   have:=Rat.mul_le_mul_of_nonneg_right h (Rat.le_of_lt hnp)
   rw[hcan] at this
   exact c2 this
 rw[hval] at h1 h2 ⊢
 have hQB:=OC hQ h1 h2
 obtain ⟨R,r1,r2⟩:=Fw k (s ^^ t) (2 * q+st.toNat) (i - j - more - 1) hB ((hside B hB).1 hQB) hf
 rw[hdiv]
 exact ⟨R,r1,(T2 hQ (A0 _ _) hside _).trans r2⟩
theorem E3 {k:FloatKind} {x:Nat} {s:Bool} {m:Nat} {e:Int} (h:k.decode x = .number s m e):EO k x (sg s (mv m e)):=by
 refine ⟨s,m,e,h,rfl,?_⟩
 obtain ⟨K,-,-,-,-,hb⟩:=YD k
 have hbp:0<k.format.binade:=by rw[hb];exact Nat.two_pow_pos _
 have h:k.format.read x = .number s m e:=h
 unfold Ieee.Format.read at h
 by_cases c1:x % k.format.signWeight<k.format.binade
 ·simp only[if_pos c1] at h
  cases h
  exact ⟨by omega,Int.le_refl _⟩
 ·by_cases c2:x % k.format.signWeight<k.format.infRung
  ·simp only[if_neg c1,if_pos c2] at h
   cases h
   have:=Nat.mod_lt (x % k.format.signWeight) hbp
   exact ⟨by omega,by omega⟩
  ·by_cases c3:x % k.format.signWeight=k.format.infRung
   ·simp only[if_neg c1,if_neg c2,if_pos c3] at h;cases h
   ·simp only[if_neg c1,if_neg c2,if_neg c3] at h;cases h
theorem DK {k:FloatKind} {x:Nat} {s:Bool} {m:Nat} {e:Int} (h:k.decode x = .number s m e) :
  m<2 * k.format.binade∧k.format.leastPlace≤e∧(k.format.leastPlace<e→k.format.binade≤m)∧x % k.format.signWeight=(e - k.format.leastPlace).toNat * k.format.binade+m∧(x / k.format.signWeight % 2==1)=s:=by
 obtain ⟨K,-,-,-,-,hb⟩:=YD k
 have hbp:0<k.format.binade:=by rw[hb];exact Nat.two_pow_pos _
 have h:k.format.read x = .number s m e:=h
 unfold Ieee.Format.read at h
 by_cases c1:x % k.format.signWeight<k.format.binade
 ·simp only[if_pos c1] at h
  cases h
  refine ⟨by omega,Int.le_refl _,fun h=>by omega,?_,rfl⟩
  rw[Int.sub_self];simp
 ·by_cases c2:x % k.format.signWeight<k.format.infRung
  ·simp only[if_neg c1,if_pos c2] at h
   cases h
   generalize x % k.format.signWeight=r at *
   generalize hbb:k.format.binade=b at *
   have h1:=Nat.mod_lt r hbp
   have h2:=Nat.div_add_mod r b
   have h3:1≤r / b:=(Nat.le_div_iff_mul_le hbp).2 (by omega)
   refine ⟨by omega,by omega,fun _=>by omega,?_,rfl⟩
   have h4:(k.format.leastPlace+((r / b - 1:Nat):Int) - k.format.leastPlace).toNat=r / b - 1:=by omega
   rw[h4]
   generalize r / b=q at *
   obtain ⟨q,rfl⟩:∃ p,q=p+1:=⟨q - 1,by omega⟩
   rw[Nat.mul_add] at h2
   rw[Nat.add_sub_cancel,Nat.mul_comm q b]
   omega
  ·by_cases c3:x % k.format.signWeight=k.format.infRung
   ·simp only[if_neg c1,if_neg c2,if_pos c3] at h;cases h
   ·simp only[if_neg c1,if_neg c2,if_neg c3] at h;cases h
theorem Ue {k:FloatKind} {m m':Nat} {e e':Int} (h1:m<2 * k.format.binade) (h1':m'<2 * k.format.binade) (h2:k.format.leastPlace≤e) (h2':k.format.leastPlace≤e') (h3:k.format.leastPlace<e→k.format.binade≤m) (h3':k.format.leastPlace<e'→k.format.binade≤m') (h:mv m e=mv m' e'):m=m'∧e=e' :=by
 have key:∀ {m m':Nat} {e e':Int},m<2 * k.format.binade→k.format.leastPlace≤e→(k.format.leastPlace<e'→k.format.binade≤m')→mv m e=mv m' e'→¬ e<e' :=by
  intro m m' e e' a1 a2 a3 a4 a5
  have e1:mv m' e'=mv (m' * 2 ^ (e' - e).toNat) e:=by rw[BW];congr 1;omega
  rw[e1] at a4
  have h5:=CY.1 (show mv (m' * 2 ^ (e' - e).toNat) e≤mv m e by rw[a4];exact Rat.le_refl)
  have h6:=a3 (by omega)
  have h7:2 ^ 1≤2 ^ (e' - e).toNat:=Nat.pow_le_pow_right (by decide) (by omega)
  have h8:k.format.binade * 2≤m' * 2 ^ (e' - e).toNat:=Nat.mul_le_mul h6 h7
  omega
 have h4:=key h1 h2 h3' h
 have h5:=key h1' h2' h3 h.symm
 have he:e=e' :=by omega
 subst he
 refine ⟨?_,rfl⟩
 have h6:=CY.1 (show mv m e≤mv m' e by rw[h];exact Rat.le_refl)
 have h7:=CY.1 (show mv m' e≤mv m e by rw[h];exact Rat.le_refl)
 omega
theorem Ti {k:FloatKind} {x y:Nat} {s:Bool} {m m':Nat} {e e':Int} (hx:x<2 * k.format.signWeight) (hy:y<2 * k.format.signWeight) (h:k.decode x = .number s m e) (h':k.decode y = .number s m' e') (hv:mv m e=mv m' e'):x=y:=by
 obtain ⟨a1,a2,a3,a4,a5⟩:=DK h
 obtain ⟨b1,b2,b3,b4,b5⟩:=DK h'
 obtain ⟨rfl,rfl⟩:=Ue a1 b1 a2 b2 a3 b3 hv
 have hp:0<k.format.signWeight:=by omega
 have h1:x % k.format.signWeight=y % k.format.signWeight:=by rw[a4,b4]
 have q1:x / k.format.signWeight<2:=(Nat.div_lt_iff_lt_mul hp).2 hx
 have q2:y / k.format.signWeight<2:=(Nat.div_lt_iff_lt_mul hp).2 hy
 rw[Nat.mod_eq_of_lt q1] at a5
 rw[Nat.mod_eq_of_lt q2] at b5
 have h2:x / k.format.signWeight=y / k.format.signWeight:=by
  have:(x / k.format.signWeight==1)=(y / k.format.signWeight==1):=by rw[a5,b5]
  generalize x / k.format.signWeight=p at *
  generalize y / k.format.signWeight=q at *
  rcases Nat.lt_or_ge p 1 with c1 | c1 <;>rcases Nat.lt_or_ge q 1 with c2 | c2
  ·omega
  ·obtain rfl:p=0:=by omega
   obtain rfl:q=1:=by omega
   cases this
  ·obtain rfl:p=1:=by omega
   obtain rfl:q=0:=by omega
   cases this
  ·omega
 rw[← Nat.div_add_mod x k.format.signWeight,← Nat.div_add_mod y k.format.signWeight,h1,h2]
theorem NS (f:Ieee.Format) (s:Bool) (m:Nat) (e:Int):f.nearest s m e=f.word s (f.nearest false m e):=by
 unfold Ieee.Format.nearest
 by_cases hm:m=0
 ·rw[if_pos hm,if_pos hm];rfl
 ·rw[if_neg hm,if_neg hm];rfl
theorem LJ (k:FloatKind) (m:Nat) (e:Int):k.format.nearest false m e≤k.format.infRung:=by
 unfold Ieee.Format.nearest
 by_cases hm:m=0
 ·rw[if_pos hm];exact Nat.zero_le _
 ·rw[if_neg hm];exact Nat.min_le_right _ _
theorem Q0 (k:FloatKind) (s:Bool) {r:Nat} (h:r≤k.format.infRung):k.format.word s r<2 * k.format.signWeight:=by
 have:=GP k
 unfold Ieee.Format.word
 split <;>omega
theorem Oe (k:FloatKind) (s:Bool) {m:Nat} {e:Int} (h:FX k (mv m e)) (hf:mv m e<p2 (JD k)):∃ m' e',k.decode (k.encode (.number s m e)) = .number s m' e'∧mv m' e'=mv m e:=by
 obtain ⟨m',e',r1,-,-,r4⟩:=Me k s m e h Rat.le_refl hf
 obtain ⟨c1,c2⟩:=r4 _ h
 have h1:=c1 Rat.le_refl
 have h2:=c2 Rat.le_refl
 exact ⟨m',e',r1,by grind⟩
def Dd (x:Nat):Nat:=if isNaN .f32 x then F8 .f32 else x % 2147483648
theorem OR {x:Nat}:(∀ s m e,FloatKind.f32.decode x = .number s m e→FloatKind.f32.decode (x % 2147483648) = .number false m e)∧(∀ s,FloatKind.f32.decode x = .infinity s→FloatKind.f32.decode (x % 2147483648) = .infinity false):=by
 have hw:FloatKind.f32.format.signWeight=2147483648:=rfl
 have hr:x % 2147483648 % FloatKind.f32.format.signWeight=x % FloatKind.f32.format.signWeight:=by rw[hw,Nat.mod_mod]
 have hs:(x % 2147483648 / FloatKind.f32.format.signWeight % 2==1)=false:=by
  rw[hw,Nat.div_eq_of_lt (Nat.mod_lt _ (by decide))];rfl
 constructor
 ·intro s m e h
  have h:FloatKind.f32.format.read x = .number s m e:=h
  show FloatKind.f32.format.read (x % 2147483648)=_
  unfold Ieee.Format.read at h ⊢
  simp only[hr,hs]
  by_cases c1:x % FloatKind.f32.format.signWeight<FloatKind.f32.format.binade
  ·simp only[if_pos c1] at h ⊢;cases h;rfl
  ·by_cases c2:x % FloatKind.f32.format.signWeight<FloatKind.f32.format.infRung
   ·simp only[if_neg c1,if_pos c2] at h ⊢;cases h;rfl
   ·by_cases c3:x % FloatKind.f32.format.signWeight=FloatKind.f32.format.infRung
    ·simp only[if_neg c1,if_neg c2,if_pos c3] at h;cases h
    ·simp only[if_neg c1,if_neg c2,if_neg c3] at h;cases h
 ·intro s h
  have h:FloatKind.f32.format.read x = .infinity s:=h
  show FloatKind.f32.format.read (x % 2147483648)=_
  unfold Ieee.Format.read at h ⊢
  simp only[hr,hs]
  by_cases c1:x % FloatKind.f32.format.signWeight<FloatKind.f32.format.binade
  ·simp only[if_pos c1] at h;cases h
  ·by_cases c2:x % FloatKind.f32.format.signWeight<FloatKind.f32.format.infRung
   ·simp only[if_neg c1,if_pos c2] at h;cases h
   ·by_cases c3:x % FloatKind.f32.format.signWeight=FloatKind.f32.format.infRung
    ·simp only[if_neg c1,if_neg c2,if_pos c3]
    ·simp only[if_neg c1,if_neg c2,if_neg c3] at h;cases h
theorem TG (k:FloatKind):EO k 0 0:=by
 have h:k.decode 0 = .number false 0 k.format.leastPlace:=by cases k <;>decide
 have:=E3 h
 rwa [CV,Cj] at this
theorem Mr.lt32 {x:Nat} (h:Mr .f32 x):x<4294967296:=by
 have:=h.2
 simpa [Lit.wf] using this
theorem Bc {α:Type} (x y:Option α):br true x y=x:=rfl
theorem BU {α:Type} (x y:Option α):br false x y=y:=rfl
theorem CP {α:Type} (x:Option α):gd true x=x:=rfl
theorem Aw {α β:Type} (a:α) (k:α→Option β):bd (some a) k=k a:=rfl
theorem L2 {A B γ:Type} (a:B) (f:A→γ) (g:B→γ):sm (.inr a) f g=g a:=rfl
section
variable {p zs:List Nat} {z:Nat} {k:FloatKind}
theorem En {α:Type} (p:List α):((p.length:Nat):Int).toNat=p.length:=rfl
end
section
variable {p zs:List Int} {z:Int} {k:IntKind}
end
section
variable {α:Type} {p zs:List α} {z:α}
theorem Jl:decide ((p.length:Int)<((p++z::zs).length:Int))=true:=by simp;omega
theorem Jn:decide ((0:Int)≤(p.length:Int)∧(p.length:Int)<((p++z::zs).length:Int))=true:=by simp;omega
theorem JZ:decide ((p.length:Int)<((p++[]).length:Int))=false:=by simp
theorem F4 (h:p.length<4611686018427387904):IntKind.i64.wrap ((p.length:Int)+1)=(((p++[z]).length:Nat):Int):=by rw[Ad (by omega)];simp
theorem HH (h:p.length<2147483648):Nat.ble (p.length+1) 2147483648=true:=by rw[Nat.ble_eq];omega
theorem Fq:p.length+1=(p++[z]).length:=by simp
end
theorem PH (k:FloatKind) (xs:List Nat) (i:Nat):(Bw k xs).take i=Bw k (xs.take i):=by simp[Bw,List.map_take]
theorem To (k:FloatKind) (xs:List Nat) (i:Nat):(Bw k xs).drop i=Bw k (xs.drop i):=by simp[Bw,List.map_drop]
def Ps (x:Nat):Prop:=x<4294967296∧Au .f32 x=x
theorem Mr.w32 {x:Nat} (h:Mr .f32 x):Ps x:=⟨h.lt32,h.1⟩
theorem TU:Ps (F8 .f32):=⟨by decide,by decide⟩
theorem IW (k:FloatKind) {d:Ieee.Datum} (h:∀ s t,d ≠ .nan s t):k.format.write d<2 * k.format.signWeight:=by
 cases d with
 | nan s t=>exact absurd rfl (h s t)
 | infinity s=>exact Q0 k s (Nat.le_refl _)
 | number s m e =>
   show k.format.nearest s m e<_
   rw[NS]
   exact Q0 k s (LJ k m e)
theorem Rz {d:Ieee.Datum} (h:∀ s t,d ≠ .nan s t):Ps (FloatKind.f32.format.write d):=⟨IW .f32 h,CH (Em h)⟩
theorem S2 (x y:Nat):Ps (fdiv .f32 x y):=by
 unfold fdiv Ieee.Format.div
 cases h:(FloatKind.f32.format.read x).quotient (FloatKind.f32.format.fractionBits+2) (FloatKind.f32.format.read y) with
 | none=>exact TU
 | some d=>exact Rz (fun s t e=>Fj h s t e)
def KB (x:Nat):Prop:=∃ m:Int,(-64≤m∧m≤64)∧(x=fdiv .f32 (FloatKind.f32.nearest m) 1088421888∨x=fdiv .f32 (FloatKind.f32.nearest m) 1098907648)
theorem KB.w32 {x:Nat} (h:KB x):Ps x:=by
 obtain ⟨m,-,rfl | rfl⟩:=h <;>exact S2 _ _
section
variable {σ α β:Type}
end
def Dn (k:FloatKind) (x:Nat):Nat:=x % k.format.signWeight
def Qh (k:FloatKind) (x:Nat):Bool:=x / k.format.signWeight % 2==1
def key (k:FloatKind) (x:Nat):Int:=if Qh k x then -(Dn k x:Int) else (Dn k x:Int)
theorem H2 (k:FloatKind):0<k.format.binade:=by cases k <;>decide
theorem OL {k:FloatKind} {x:Nat} {s:Bool} (h:k.decode x = .infinity s):Dn k x=k.format.infRung∧Qh k x=s:=by
 have h:k.format.read x = .infinity s:=h
 unfold Ieee.Format.read at h
 by_cases c1:x % k.format.signWeight<k.format.binade
 ·simp only[if_pos c1] at h;cases h
 ·by_cases c2:x % k.format.signWeight<k.format.infRung
  ·simp only[if_neg c1,if_pos c2] at h;cases h
  ·by_cases c3:x % k.format.signWeight=k.format.infRung
   ·simp only[if_neg c1,if_neg c2,if_pos c3] at h;cases h;exact ⟨c3,rfl⟩
   ·simp only[if_neg c1,if_neg c2,if_neg c3] at h;cases h
theorem E4 {k:FloatKind} {x:Nat} {s:Bool} {m:Nat} {e:Int} (h:k.decode x = .number s m e):Dn k x<k.format.infRung∧Qh k x=s:=by
 refine ⟨?_,(DK h).2.2.2.2⟩
 have h:k.format.read x = .number s m e:=h
 unfold Ieee.Format.read at h
 have hb:k.format.binade<k.format.infRung:=by cases k <;>decide
 by_cases c1:x % k.format.signWeight<k.format.binade
 ·unfold Dn;omega
 ·by_cases c2:x % k.format.signWeight<k.format.infRung
  ·exact c2
  ·by_cases c3:x % k.format.signWeight=k.format.infRung
   ·simp only[if_neg c1,if_neg c2,if_pos c3] at h;cases h
   ·simp only[if_neg c1,if_neg c2,if_neg c3] at h;cases h
theorem Sz {k:FloatKind} {x y:Nat} {s t:Bool} {m n:Nat} {i j:Int} (h:k.decode x = .number s m i) (h':k.decode y = .number t n j) (hl:Dn k x<Dn k y):mv m i<mv n j:=by
 obtain ⟨a1,a2,a3,a4,-⟩:=DK h
 obtain ⟨b1,b2,b3,b4,-⟩:=DK h'
 unfold Dn at hl
 rw[a4,b4] at hl
 have hB:=H2 k
 generalize k.format.binade=B at *
 generalize k.format.leastPlace=L at *
 rcases Int.lt_trichotomy i j with hij | rfl | hij
 ·have e1:mv n j=mv (n * 2 ^ (j - i).toNat) i:=by rw[BW];congr 1;omega
  rw[e1,Mx]
  have h6:=b3 (by omega)
  have h7:2 ^ 1≤2 ^ (j - i).toNat:=Nat.pow_le_pow_right (by decide) (by omega)
  have h8:B * 2≤n * 2 ^ (j - i).toNat:=Nat.mul_le_mul h6 h7
  omega
 ·rw[Mx];omega
 ·exfalso
  have h6:=a3 (by omega)
  have:(i - L).toNat=(j - L).toNat+(i - j).toNat:=by omega
  rw[this,Nat.add_mul] at hl
  have:B≤(i - j).toNat * B:=Nat.le_mul_of_pos_left B (by omega)
  omega
theorem TC {k:FloatKind} {x y:Nat} {s t:Bool} {m n:Nat} {i j:Int} (h:k.decode x = .number s m i) (h':k.decode y = .number t n j) (hl:Dn k x=Dn k y):mv m i=mv n j:=by
 obtain ⟨a1,a2,a3,a4,-⟩:=DK h
 obtain ⟨b1,b2,b3,b4,-⟩:=DK h'
 unfold Dn at hl
 rw[a4,b4] at hl
 have hB:=H2 k
 generalize k.format.binade=B at *
 generalize k.format.leastPlace=L at *
 have:i=j:=by
  rcases Int.lt_trichotomy i j with hij | e | hij
  ·exfalso
   have h6:=b3 (by omega)
   have:(j - L).toNat=(i - L).toNat+(j - i).toNat:=by omega
   rw[this,Nat.add_mul] at hl
   have:B≤(j - i).toNat * B:=Nat.le_mul_of_pos_left B (by omega)
   omega
  ·exact e
  ·exfalso
   have h6:=a3 (by omega)
   have:(i - L).toNat=(j - L).toNat+(i - j).toNat:=by omega
   rw[this,Nat.add_mul] at hl
   have:B≤(i - j).toNat * B:=Nat.le_mul_of_pos_left B (by omega)
   omega
 subst this
 have:m=n:=by omega
 rw[this]
theorem Ig {k:FloatKind} {x:Nat} {s:Bool} {m:Nat} {i:Int} (h:k.decode x = .number s m i):(Dn k x=0↔mv m i=0):=by
 obtain ⟨a1,a2,a3,a4,-⟩:=DK h
 have hB:=H2 k
 unfold Dn
 rw[a4]
 constructor
 ·intro h0
  have:m=0:=by omega
  rw[this,Cj]
 ·intro h0
  have hm:m=0:=by
   rcases Nat.eq_zero_or_pos m with e | e
   ·exact e
   ·have h1:mv 0 i<mv m i:=Mx.2 e
    rw[Cj,h0] at h1
    exact absurd h1 (by decide)
  subst hm
  have:¬ k.format.leastPlace<i:=fun h1=>by have:=a3 h1;omega
  have:(i - k.format.leastPlace).toNat=0:=by omega
  rw[this];simp
theorem Ca (a b:Int):(a<b∧compare a b = .lt)∨(a=b∧compare a b = .eq)∨(b<a∧compare a b = .gt):=by
 rcases Int.lt_trichotomy a b with h1 | h1 | h1
 ·exact .inl ⟨h1,by simp[compare,compareOfLessAndEq,h1]⟩
 ·subst h1;exact .inr (.inl ⟨rfl,by simp[compare,compareOfLessAndEq]⟩)
 ·exact .inr (.inr ⟨h1,by simp only[compare,compareOfLessAndEq];rw[if_neg (by omega),if_neg (by omega)]⟩)
theorem LS {k:FloatKind} {x y:Nat} {s t:Bool} {m n:Nat} {i j:Int} (h:k.decode x = .number s m i) (h':k.decode y = .number t n j) (hl:key k x<key k y):sg s (mv m i)<sg t (mv n j):=by
 have hs:=(E4 h).2
 have ht:=(E4 h').2
 unfold key at hl
 rw[hs,ht] at hl
 have z1:=Ig h
 have z2:=Ig h'
 have p1:=A0 m i
 have p2:=A0 n j
 cases s <;>cases t <;>simp only[Bool.false_eq_true,if_false,if_true,sg] at hl ⊢
 ·exact Sz h h' (by omega)
 ·omega
 ·rcases Nat.eq_zero_or_pos (Dn k y) with e | e
  ·have:0<Dn k x:=by omega
   have:mv m i≠0:=fun h0=>by rw[z1.2 h0] at this;omega
   have h0:=z2.1 e
   rw[h0];grind
  ·have:mv n j≠0:=fun h0=>by rw[z2.2 h0] at e;omega
   grind
 ·have:=Sz h' h (by omega)
  grind
theorem QH {k:FloatKind} {x y:Nat} {s t:Bool} {m n:Nat} {i j:Int} (h:k.decode x = .number s m i) (h':k.decode y = .number t n j) (hl:key k x=key k y):sg s (mv m i)=sg t (mv n j):=by
 have hs:=(E4 h).2
 have ht:=(E4 h').2
 unfold key at hl
 rw[hs,ht] at hl
 have z1:=Ig h
 have z2:=Ig h'
 cases s <;>cases t <;>simp only[Bool.false_eq_true,if_false,if_true,sg] at hl ⊢
 ·exact TC h h' (by omega)
 ·rw[z1.1 (by omega),z2.1 (by omega)];rfl
 ·rw[z1.1 (by omega),z2.1 (by omega)];rfl
 ·rw[TC h h' (by omega)]
theorem RY {k:FloatKind} {x y:Nat} (hx:isNaN k x=false) (hy:isNaN k y=false):k.format.order x y=some (compare (key k x) (key k y)):=by
 have inf_pos:∀ {z:Nat} {s:Bool},k.decode z = .infinity s→key k z=if s then -(k.format.infRung:Int) else (k.format.infRung:Int):=by
  intro z s h
  obtain ⟨h1,h2⟩:=OL h
  unfold key;rw[h1,h2]
 have fin_lt:∀ {z:Nat} {s:Bool} {m:Nat} {e:Int},k.decode z = .number s m e → -(k.format.infRung:Int)<key k z∧key k z<(k.format.infRung:Int):=by
  intro z s m e h
  obtain ⟨h1,h2⟩:=E4 h
  unfold key;rw[h2]
  cases s <;>simp only[Bool.false_eq_true,if_false,if_true] <;>omega
 have hI:(0:Int)<(k.format.infRung:Int):=by cases k <;>decide
 have lt_c:∀ a b:Int,a<b→compare a b = .lt:=fun a b h=>by rcases Ca a b with ⟨h1,e⟩ | ⟨h1,e⟩ | ⟨h1,e⟩ <;>first | exact e | omega
 have gt_c:∀ a b:Int,b<a→compare a b = .gt:=fun a b h=>by rcases Ca a b with ⟨h1,e⟩ | ⟨h1,e⟩ | ⟨h1,e⟩ <;>first | exact e | omega
 have eq_c:∀ a b:Int,a=b→compare a b = .eq:=fun a b h=>by rcases Ca a b with ⟨h1,e⟩ | ⟨h1,e⟩ | ⟨h1,e⟩ <;>first | exact e | omega
 unfold isNaN at hx hy
 cases h1:k.decode x with
 | nan s f=>rw[h1] at hx;simp[Ieee.Datum.isNaN] at hx
 | infinity s =>
   cases h2:k.decode y with
   | nan s f=>rw[h2] at hy;simp[Ieee.Datum.isNaN] at hy
   | infinity t =>
     have e1:k.format.read x = .infinity s:=h1
     have e2:k.format.read y = .infinity t:=h2
     simp only[Ieee.Format.order,e1,e2,Ieee.Datum.order]
     rw[inf_pos h1,inf_pos h2]
     cases s <;>cases t <;>simp only[Bool.false_eq_true,if_false,if_true]
     ·rw[eq_c _ _ rfl];rfl
     ·rw[gt_c _ _ (by omega)];rfl
     ·rw[lt_c _ _ (by omega)];rfl
     ·rw[eq_c _ _ rfl];rfl
   | number t n j =>
     have e1:k.format.read x = .infinity s:=h1
     have e2:k.format.read y = .number t n j:=h2
     have:=fin_lt h2
     simp only[Ieee.Format.order,e1,e2,Ieee.Datum.order]
     rw[inf_pos h1]
     cases s <;>simp only[Bool.false_eq_true,if_false,if_true]
     ·rw[gt_c _ _ (by omega)]
     ·rw[lt_c _ _ (by omega)]
 | number s m i =>
   cases h2:k.decode y with
   | nan s f=>rw[h2] at hy;simp[Ieee.Datum.isNaN] at hy
   | infinity t =>
     have e1:k.format.read x = .number s m i:=h1
     have e2:k.format.read y = .infinity t:=h2
     have:=fin_lt h1
     simp only[Ieee.Format.order,e1,e2,Ieee.Datum.order]
     rw[inf_pos h2]
     cases t <;>simp only[Bool.false_eq_true,if_false,if_true]
     ·rw[lt_c _ _ (by omega)]
     ·rw[gt_c _ _ (by omega)]
   | number t n j =>
     obtain ⟨o1,o2,o3⟩:=Fx (E3 h1) (E3 h2)
     rcases Ca (key k x) (key k y) with ⟨h3,e⟩ | ⟨h3,e⟩ | ⟨h3,e⟩
     ·rw[e];exact o1.2 (LS h1 h2 h3)
     ·rw[e];exact o2.2 (QH h1 h2 h3)
     ·rw[e];exact o3.2 (LS h2 h1 h3)
section
variable {k:FloatKind} {x y:Nat}
theorem M4 (h:isNaN k x=true∨isNaN k y=true):k.format.order x y=none:=by
 unfold isNaN FloatKind.decode at h
 unfold Ieee.Format.order
 rcases h with h | h
 ·cases hr:k.format.read x with
  | nan s t=>simp[Ieee.Datum.order]
  | infinity s=>rw[hr] at h;cases h
  | number s m e=>rw[hr] at h;cases h
 ·cases hr:k.format.read y with
  | nan s t=>cases k.format.read x <;>simp[Ieee.Datum.order]
  | infinity s=>rw[hr] at h;cases h
  | number s m e=>rw[hr] at h;cases h
def Lj (k:FloatKind) (x y:Nat):Bool:=!isNaN k x && !isNaN k y
theorem II:k.format.order x y=if Lj k x y then some (compare (key k x) (key k y)) else none:=by
 unfold Lj
 cases hx:isNaN k x
 ·cases hy:isNaN k y
  ·exact RY hx hy
  ·exact M4 (.inr hy)
 ·exact M4 (.inl hx)
theorem T3:Pj k x y=(Lj k x y&&decide (key k x=key k y)):=by
 unfold Pj
 rw[II]
 cases Lj k x y
 ·rfl
 ·rcases Ca (key k x) (key k y) with ⟨h,e⟩ | ⟨h,e⟩ | ⟨h,e⟩ <;>rw[if_pos rfl,e] <;>simp <;>omega
theorem Uj:UE k x y=(Lj k x y&&decide (key k x≤key k y)):=by
 unfold UE
 rw[II]
 cases Lj k x y
 ·rfl
 ·rcases Ca (key k x) (key k y) with ⟨h,e⟩ | ⟨h,e⟩ | ⟨h,e⟩ <;>rw[if_pos rfl,e] <;>simp <;>omega
theorem T1:Su k x y=(Lj k x y&&decide (key k y≤key k x)):=by
 unfold Su
 rw[II]
 cases Lj k x y
 ·rfl
 ·rcases Ca (key k x) (key k y) with ⟨h,e⟩ | ⟨h,e⟩ | ⟨h,e⟩ <;>rw[if_pos rfl,e] <;>simp <;>omega
end
theorem Qu {x:Nat} (h:x<4294967296):key .f32 x=if x<2147483648 then (x:Int) else -((x:Int) - 2147483648):=by
 have hw:FloatKind.f32.format.signWeight=2147483648:=rfl
 unfold key Qh Dn
 rw[hw]
 by_cases c:x<2147483648
 ·rw[if_pos c,Nat.div_eq_of_lt c,Nat.mod_eq_of_lt c];rfl
 ·have:x / 2147483648=1:=by omega
  rw[if_neg c,this,if_pos (by decide)]
  omega
theorem X7 {x:Nat}:isNaN .f32 x=decide (2139095040<x % 2147483648):=Jc x
def QP (x:Nat):Nat:=if x % 2147483648<8388608 then x / 2147483648 * 2147483648 else x
abbrev Yl:=Nat × Nat × Nat × Nat × Nat
abbrev ZT:=Nat × Nat × Nat × Nat
def fl? (b:Bool) (x:Nat):Nat:=if b then QP x else x
def S5 (f:Yl) (form:Int) (b:Bool) (m:ZT) (x:Nat):Nat × ZT :=
 if form=0 then
  let y:=fl? b (E8 .f32 (E8 .f32 (E9 .f32 (E9 .f32 (Co .f32 f.1 x) (Co .f32 f.2.1 m.1)) (Co .f32 f.2.2.1 m.2.1)) (Co .f32 f.2.2.2.1 m.2.2.1)) (Co .f32 f.2.2.2.2 m.2.2.2))
  (y,fl? b x,fl? b m.1,fl? b y,fl? b m.2.2.1)
 else if form=1 then
  let y:=fl? b (E9 .f32 (Co .f32 f.1 x) m.1)
  (y,fl? b (E9 .f32 (E8 .f32 (Co .f32 f.2.1 x) (Co .f32 f.2.2.2.1 y)) m.2.1),fl? b (E8 .f32 (Co .f32 f.2.2.1 x) (Co .f32 f.2.2.2.2 y)),fl? b 0,fl? b 0)
 else
  let w:=fl? b (E8 .f32 (E8 .f32 x (Co .f32 f.2.2.2.1 m.1)) (Co .f32 f.2.2.2.2 m.2.1))
  (fl? b (E9 .f32 (E9 .f32 (Co .f32 f.1 w) (Co .f32 f.2.1 m.1)) (Co .f32 f.2.2.1 m.2.1)),fl? b w,fl? b m.1,fl? b 0,fl? b 0)
section
variable {σ α β:Type} {f:σ→α→β × σ} {P:σ→Prop} {Q:α→Prop} {S:β→Prop}
end
section
variable {p zs:List (Int × Nat)} {z:Int × Nat}
end
def Xy (w:List Nat) (x:Nat):List Nat:=w.drop 1++[x]
def Cs (x:Nat):Bool:=decide (x % 2147483648<2139095040)
theorem Qg {x:Nat} (h:Cs x=true):isNaN .f32 x=false:=by
 unfold Cs at h;rw[X7];simp at h ⊢;omega
theorem PI {x:Nat} (h:Cs x=true):∃ s m e,FloatKind.f32.decode x = .number s m e:=by
 cases hd:FloatKind.f32.decode x with
 | number s m e=>exact ⟨s,m,e,rfl⟩
 | infinity s =>
   have h1:=(OL hd).1
   unfold Cs at h
   have e1:FloatKind.f32.format.infRung=2139095040:=by decide
   have e2:Dn .f32 x=x % 2147483648:=rfl
   simp at h
   omega
 | nan s t =>
   have:=Qg h
   unfold isNaN at this
   rw[hd] at this;cases this
theorem Rb {x:Nat} (h:Cs x=true):E8 .f32 x x=0:=by
 obtain ⟨s,m,e,hd⟩:=PI h
 have hd:FloatKind.f32.format.read x = .number s m e:=hd
 unfold E8 Ieee.Format.sub
 rw[hd]
 simp only[Ieee.Datum.opposite,Ieee.Datum.sum]
 have e0:Ieee.signed s m (e - min e e).toNat+Ieee.signed (!s) m (e - min e e).toNat=0:=by
  unfold Ieee.signed
  cases s <;>simp <;>omega
 rw[e0]
 cases s <;>rfl
theorem Lq (x:Nat):Pj .f32 (E8 .f32 x x) 0=Cs x:=by
 cases h:Cs x
 ·
  have hN:isNaN .f32 (E8 .f32 x x)=true:=by
   cases hd:FloatKind.f32.decode x with
   | number s m e =>
     have h1:=(E4 hd).1
     have e1:FloatKind.f32.format.infRung=2139095040:=by decide
     have e2:Dn .f32 x=x % 2147483648:=rfl
     unfold Cs at h
     simp at h
     omega
   | infinity s =>
     have hd:FloatKind.f32.format.read x = .infinity s:=hd
     unfold E8 Ieee.Format.sub
     rw[hd]
     cases s <;>decide
   | nan s t =>
     have hd:FloatKind.f32.format.read x = .nan s t:=hd
     unfold E8 Ieee.Format.sub
     rw[hd]
     simp only[Ieee.Datum.sum,Option.map_none]
     decide
  rw[T3];unfold Lj;rw[hN];rfl
 ·rw[Rb h];decide
theorem UV {k:FloatKind} {x y:Nat} {a b B:Rat} (hx:EO k x a) (hy:EO k y b) (hB:FX k B) (hf:B<p2 (JD k)) (h1:a - b≤B) (h2 : -B≤a - b) :
  ∃ R,EO k (E8 k x y) R∧Jr k (a - b) R:=by
 obtain ⟨s,m,i,e1,rfl,-⟩:=hx
 obtain ⟨t,n,j,e2,rfl,-⟩:=hy
 have e1:k.format.read x = .number s m i:=e1
 have e2:k.format.read y = .number t n j:=e2
 generalize hb:min i j=base
 generalize ht:Ieee.signed s m (i - base).toNat+Ieee.signed (!t) n (j - base).toNat=total
 have hadd:E8 k x y=k.encode (.number (if total=0 then s && !t else total<0) total.natAbs base):=by
  simp only[E8,Ieee.Format.sub,e1,e2,Ieee.Datum.opposite,Ieee.Datum.sum,Option.map_some,hb,ht]
  rfl
 have hneg:sg (!t) (mv n j) = -sg t (mv n j):=by cases t <;>simp[sg]
 have hval:sg (if total=0 then s && !t else decide (total<0)) (mv total.natAbs base)=sg s (mv m i) - sg t (mv n j):=by
  rw[Rat.sub_eq_add_neg,← hneg,JT,← ht,Rat.intCast_add,Rat.add_mul,CX,CX]
  congr 2 <;>congr 1 <;>omega
 rw[hadd,← hval]
 exact Fw k _ _ _ hB (OC (A0 _ _) (by rw[hval];exact h1) (by rw[hval];exact h2)) hf
theorem RS (k:FloatKind) (s:Bool) (m:Nat) (e:Int):k.encode (.number s m e)<2 * k.format.signWeight:=IW k (by intro _ _ h;cases h)
theorem Ud (k:FloatKind) (x y:Nat):E9 k x y<2 * k.format.signWeight:=by
 unfold E9 Ieee.Format.add
 cases h:(k.format.read x).sum (k.format.read y) with
 | none=>cases k <;>decide
 | some d=>exact IW k (fun s t e=>Gv h s t e)
theorem Tx (k:FloatKind) (x y:Nat):Co k x y<2 * k.format.signWeight:=by
 unfold Co Ieee.Format.mul
 cases h:(k.format.read x).product (k.format.read y) with
 | none=>cases k <;>decide
 | some d=>exact IW k (fun s t e=>Gc h s t e)
theorem LV (k:FloatKind) (n:Int):k.nearest n<2 * k.format.signWeight:=RS k _ _ _
theorem KE {k:FloatKind} {x y:Nat} {a:Rat} (hx:x<2 * k.format.signWeight) (hy:y<2 * k.format.signWeight) (h1:EO k x a) (h2:EO k y a) (ha:a≠0):x=y:=by
 obtain ⟨s,m,i,e1,h3,-⟩:=h1
 obtain ⟨t,n,j,e2,h4,-⟩:=h2
 have p1:=A0 m i
 have p2:=A0 n j
 have hst:s=t:=by
  cases s <;>cases t <;>simp only[FM,CV] at h3 h4 <;>first | rfl | (exfalso;grind)
 subst hst
 refine Ti hx hy e1 e2 ?_
 cases s <;>simp only[FM,CV] at h3 h4 <;>grind
theorem Ea (k:FloatKind) {B:Nat} (hB:B≤2 * k.format.binade):FX k (B:Rat):=by
 refine ⟨B,0,hB,by cases k <;>decide,?_⟩
 unfold mv;rw[GD,Rat.mul_one]
theorem GH (k:FloatKind) {B:Nat} (hB:B≤2 * k.format.binade):(B:Rat)<p2 (JD k):=by
 have h1:(B:Rat)≤((2 * k.format.binade:Nat):Rat):=by exact_mod_cast hB
 have h2:((2 * k.format.binade:Nat):Rat)<p2 (JD k):=by
  have:∃ j:Nat,2 * k.format.binade=2 ^ j∧(j:Int)<JD k:=by
   cases k
   ·exact ⟨24,by decide,by decide⟩
   ·exact ⟨53,by decide,by decide⟩
  obtain ⟨j,e,h⟩:=this
  rw[e,← NI]
  exact So h
 exact Yk h1 h2
theorem Qr {k:FloatKind} {n:Int} (hn:n.natAbs≤2 * k.format.binade):Wg k (n:Rat):=(ER hn).rep
theorem Na {n:Int}:(n:Rat)≤((n.natAbs:Nat):Rat) ∧ -((n.natAbs:Nat):Rat)≤(n:Rat):=by
 have h1:n≤((n.natAbs:Nat):Int):=by omega
 have h2 : -((n.natAbs:Nat):Int)≤n:=by omega
 have e:((n.natAbs:Nat):Rat)=(((n.natAbs:Nat):Int):Rat):=(Rat.intCast_natCast _).symm
 rw[e]
 refine ⟨Rat.intCast_le_intCast.2 h1,?_⟩
 rw[← Rat.intCast_neg]
 exact Rat.intCast_le_intCast.2 h2
theorem GJ (k:FloatKind):k.nearest 0=0:=by cases k <;>decide
theorem Uo {k:FloatKind} {a b:Int} (ha:a.natAbs≤2 * k.format.binade) (hb:b.natAbs≤2 * k.format.binade) (hab:(a+b).natAbs≤2 * k.format.binade):E9 k (k.nearest a) (k.nearest b)=k.nearest (a+b):=by
 have va:=ER (k:=k) ha
 have vb:=ER (k:=k) hb
 by_cases h0:a+b=0
 ·rw[h0,GJ]
  obtain ⟨s,m,i,e1,h1,-⟩:=va
  obtain ⟨t,n,j,e2,h2,-⟩:=vb
  have p1:=A0 m i
  have p2' :=A0 n j
  have hbv:(b:Rat) = -(a:Rat):=by
   have:b = -a:=by omega
   rw[this,Rat.intCast_neg]
  have hst:(s&&t)=false:=by
   by_cases h:a=0
   ·subst h
    rw[GJ] at e1
    have:k.decode 0 = .number false 0 k.format.leastPlace:=by cases k <;>decide
    rw[this] at e1
    cases e1;rfl
   ·have hne:(a:Rat)≠0:=by exact_mod_cast h
    cases s <;>cases t <;>simp only[FM,CV] at h1 h2 <;>first | rfl | (exfalso;grind)
  have e1:k.format.read (k.nearest a) = .number s m i:=e1
  have e2:k.format.read (k.nearest b) = .number t n j:=e2
  generalize hbase:min i j=base
  have ht:Ieee.signed s m (i - base).toNat+Ieee.signed t n (j - base).toNat=0:=by
   have h3:((Ieee.signed s m (i - base).toNat+Ieee.signed t n (j - base).toNat:Int):Rat) * p2 base=0:=by
    rw[Rat.intCast_add,Rat.add_mul,CX,CX]
    rw[show base+((i - base).toNat:Int)=i by omega,show base+((j - base).toNat:Int)=j by omega,← h1,← h2,hbv]
    grind
   have h4:=IM base
   have h5:((Ieee.signed s m (i - base).toNat+Ieee.signed t n (j - base).toNat:Int):Rat)=0:=by
    rcases Rat.mul_eq_zero.1 h3 with h | h
    ·exact h
    ·rw[h] at h4;exact absurd h4 (by decide)
   exact_mod_cast h5
  simp only[E9,Ieee.Format.add,e1,e2,Ieee.Datum.sum,Option.map_some,hbase,ht,hst]
  rfl
 ·have hv:(a:Rat)+(b:Rat)=((a+b:Int):Rat):=(Rat.intCast_add _ _).symm
  obtain ⟨h1,h2⟩:=Na (n:=a+b)
  obtain ⟨R,h3,h4⟩:=Qk va vb (Ea k hab) (GH k hab) (by rw[hv];exact h1) (by rw[hv];exact h2)
  rw[hv] at h4
  have h5:=h3.near_eq h4 (Qr hab)
  exact KE (Ud _ _ _) (LV _ _) h5 (ER hab) (by exact_mod_cast h0)
def Bd (k:FloatKind) (x:Nat) (B:Nat):Prop:=∃ v:Rat,EO k x v ∧ -(B:Rat)≤v∧v≤(B:Rat)
theorem Jr.bd {k:FloatKind} {v R:Rat} {B:Nat} (h:Jr k v R) (hB:B≤2 * k.format.binade) (h1:v≤(B:Rat)) (h2 : -(B:Rat)≤v) : -(B:Rat)≤R∧R≤(B:Rat) :=
 ⟨(h _ (Ea k hB).neg).2 h2,(h _ (Ea k hB).rep).1 h1⟩
theorem Bd.add {k:FloatKind} {x y A B:Nat} (hx:Bd k x A) (hy:Bd k y B) (h:A+B≤2 * k.format.binade):Bd k (E9 k x y) (A+B):=by
 obtain ⟨v,h1,h2,h3⟩:=hx
 obtain ⟨w,h4,h5,h6⟩:=hy
 have e:=Rat.natCast_add A B
 have g1:v+w≤((A+B:Nat):Rat):=by rw[e];grind
 have g2 : -((A+B:Nat):Rat)≤v+w:=by rw[e];grind
 obtain ⟨R,q1,q2⟩:=Qk h1 h4 (Ea k h) (GH k h) g1 g2
 exact ⟨R,q1,q2.bd h g1 g2⟩
theorem Bd.sub {k:FloatKind} {x y A B:Nat} (hx:Bd k x A) (hy:Bd k y B) (h:A+B≤2 * k.format.binade):Bd k (E8 k x y) (A+B):=by
 obtain ⟨v,h1,h2,h3⟩:=hx
 obtain ⟨w,h4,h5,h6⟩:=hy
 have e:=Rat.natCast_add A B
 have g1:v - w≤((A+B:Nat):Rat):=by rw[e];grind
 have g2 : -((A+B:Nat):Rat)≤v - w:=by rw[e];grind
 obtain ⟨R,q1,q2⟩:=UV h1 h4 (Ea k h) (GH k h) g1 g2
 exact ⟨R,q1,q2.bd h g1 g2⟩
theorem O9 {v w A B:Rat} (hA:0≤A) (hB:0≤B) (h1 : -A≤v) (h2:v≤A) (h3 : -B≤w) (h4:w≤B) : -(A * B)≤v * w∧v * w≤A * B:=by
 have key:∀ v w:Rat,0≤v→0≤w→v≤A→w≤B→0≤v * w∧v * w≤A * B:=fun v w a b c d =>
  ⟨Rat.mul_nonneg a b,Rat.le_trans (Rat.mul_le_mul_of_nonneg_right c b) (Rat.mul_le_mul_of_nonneg_left d hA)⟩
 rcases (Rat.le_total:(0:Rat)≤v∨v≤0) with hv | hv <;>rcases (Rat.le_total:(0:Rat)≤w∨w≤0) with hw | hw
 ·have:=key v w hv hw h2 h4;grind
 ·have:=key v (-w) hv (by grind) h2 (by grind);grind
 ·have:=key (-v) w (by grind) hw (by grind) h4;grind
 ·have:=key (-v) (-w) (by grind) (by grind) (by grind) (by grind);grind
theorem Bd.mul {k:FloatKind} {x y A B:Nat} (hx:Bd k x A) (hy:Bd k y B) (h:A * B≤2 * k.format.binade):Bd k (Co k x y) (A * B):=by
 obtain ⟨v,h1,h2,h3⟩:=hx
 obtain ⟨w,h4,h5,h6⟩:=hy
 have e:=Rat.natCast_mul A B
 have hA:(0:Rat)≤(A:Rat):=by exact_mod_cast Nat.zero_le A
 have hB:(0:Rat)≤(B:Rat):=by exact_mod_cast Nat.zero_le B
 obtain ⟨g2,g1⟩:=O9 hA hB h2 h3 h5 h6
 rw[← e] at g1 g2
 obtain ⟨R,q1,q2⟩:=Qm h1 h4 (Ea k h) (GH k h) g1 g2
 exact ⟨R,q1,q2.bd h g1 g2⟩
theorem Bd.div {k:FloatKind} {x y A:Nat} {w:Rat} (hx:Bd k x A) (hy:EO k y w) (hw:1≤w) (h:A≤2 * k.format.binade):Bd k (fdiv k x y) A:=by
 obtain ⟨v,h1,h2,h3⟩:=hx
 have hA:(0:Rat)≤(A:Rat):=by exact_mod_cast Nat.zero_le A
 have hw0:w≠0:=by grind
 have hpos:0<w:=by grind
 have hq:v / w * w=v:=Rat.div_mul_cancel hw0
 have hAw:(A:Rat) * 1≤(A:Rat) * w:=Rat.mul_le_mul_of_nonneg_left hw hA
 have g1:v / w≤(A:Rat):=by
  refine Rat.not_lt.1 fun h => ?_
  have:=(Rat.mul_lt_mul_right hpos).2 h
  grind
 have g2 : -(A:Rat)≤v / w:=by
  refine Rat.not_lt.1 fun h => ?_
  have:=(Rat.mul_lt_mul_right hpos).2 h
  grind
 obtain ⟨R,q1,q2⟩:=UU h1 hy hw0 (Ea k h) (GH k h) g1 g2
 exact ⟨R,q1,q2.bd h g1 g2⟩
theorem Bd.mono {k:FloatKind} {x A B:Nat} (h:Bd k x A) (hAB:A≤B):Bd k x B:=by
 obtain ⟨v,h1,h2,h3⟩:=h
 have:(A:Rat)≤(B:Rat):=by exact_mod_cast hAB
 exact ⟨v,h1,by grind,by grind⟩
theorem Bd.int {k:FloatKind} {n:Int} {B:Nat} (h:n.natAbs≤B) (hB:B≤2 * k.format.binade):Bd k (k.nearest n) B:=by
 obtain ⟨h1,h2⟩:=Na (n:=n)
 have:((n.natAbs:Nat):Rat)≤(B:Rat):=by exact_mod_cast h
 exact ⟨_,ER (by omega),by grind,by grind⟩
theorem Bd.toInt {x B:Nat} (h:Bd .f64 x B) (hB:B≤4611686018427387904):∃ n:Int,F2 .f64 x .i64=some n∧n.natAbs≤B:=by
 obtain ⟨v,⟨s,m,i,e1,rfl,-⟩,h2,h3⟩:=h
 have hv:=A0 m i
 have hmv:mv m i≤(B:Rat):=by cases s <;>simp only[FM,CV] at h2 h3 <;>grind
 have hc:(m <<< i.toNat) / 2 ^ (-i).toNat≤B:=by
  refine Nat.div_le_of_le_mul ?_
  rw[Nat.shiftLeft_eq]
  have h4:mv (m * 2 ^ i.toNat) (-((-i).toNat:Int))≤mv (2 ^ (-i).toNat * B) (-((-i).toNat:Int)):=by
   rw[Nat.mul_comm (2 ^ (-i).toNat),BW,BW]
   rw[show -((-i).toNat:Int)+(i.toNat:Int)=i by omega,show -((-i).toNat:Int)+((-i).toNat:Int)=0 by omega]
   have e0:mv B 0=(B:Rat):=by unfold mv;rw[GD,Rat.mul_one]
   rw[e0];exact hmv
  exact CY.1 h4
 refine ⟨Ieee.signed s ((m <<< i.toNat) / 2 ^ (-i).toNat) 0,?_,?_⟩
 ·unfold F2
  rw[e1]
  simp only[Ieee.Datum.toInt,Ieee.Datum.integral,SM]
  have h5:IntKind.i64.min≤Ieee.signed s ((m <<< i.toNat) / 2 ^ (-i).toNat) 0∧Ieee.signed s ((m <<< i.toNat) / 2 ^ (-i).toNat) 0≤IntKind.i64.max:=by
   have e1:IntKind.i64.min = -9223372036854775808:=by decide
   have e2:IntKind.i64.max=9223372036854775807:=by decide
   rw[e1,e2]
   generalize (m <<< i.toNat) / 2 ^ (-i).toNat=c at *
   unfold Ieee.signed
   simp only[Nat.shiftLeft_zero]
   split <;>omega
  rw[if_pos h5]
 ·generalize (m <<< i.toNat) / 2 ^ (-i).toNat=c at *
  unfold Ieee.signed
  simp only[Nat.shiftLeft_zero]
  split <;>omega
theorem Bd.even {x B:Nat} (h:Bd .f64 x B) (hB:B≤2 * FloatKind.f64.format.binade):Bd .f64 (DE .even x) B:=by
 obtain ⟨v,⟨s,m,i,e1,rfl,-⟩,h2,h3⟩:=h
 have hv:=A0 m i
 have hmv:mv m i≤(B:Rat):=by cases s <;>simp only[FM,CV] at h2 h3 <;>grind
 have hn:m <<< i.toNat≤B * 2 ^ (-i).toNat:=by
  rw[Nat.shiftLeft_eq]
  have h4:mv (m * 2 ^ i.toNat) (-((-i).toNat:Int))≤mv (B * 2 ^ (-i).toNat) (-((-i).toNat:Int)):=by
   rw[BW,BW]
   rw[show -((-i).toNat:Int)+(i.toNat:Int)=i by omega,show -((-i).toNat:Int)+((-i).toNat:Int)=0 by omega]
   have e0:mv B 0=(B:Rat):=by unfold mv;rw[GD,Rat.mul_one]
   rw[e0];exact hmv
  exact CY.1 h4
 have hc:=(LE s (m <<< i.toNat) (-i).toNat B).1 hn
 have e2:DE .even x=FloatKind.f64.encode (.number s (Ieee.Toward.cut .even s (m <<< i.toNat) (-i).toNat) 0):=by
  unfold DE;rw[e1];rfl
 rw[e2]
 generalize Ieee.Toward.cut .even s (m <<< i.toNat) (-i).toNat=c at *
 have hcb:c≤2 * FloatKind.f64.format.binade:=by omega
 have e3:mv c 0=(c:Rat):=by unfold mv;rw[GD,Rat.mul_one]
 have e4:(c:Rat)≤(B:Rat):=by exact_mod_cast hc
 have e5:(0:Rat)≤(c:Rat):=by exact_mod_cast Nat.zero_le c
 obtain ⟨m',e',q1,q2⟩:=Oe .f64 s (m:=c) (e:=0) (by rw[e3];exact Ea .f64 hcb) (by rw[e3];exact GH .f64 hcb)
 refine ⟨_,E3 q1,?_,?_⟩ <;>rw[q2,e3] <;>cases s <;>simp only[FM,CV] <;>grind
theorem UX {x:Nat} (h:Cs x=true):EO .f32 x (fval .f32 x):=by
 obtain ⟨s,m,e,hd⟩:=PI h
 have:=E3 hd
 unfold fval;rw[hd];exact this
theorem EO.fval {k:FloatKind} {x:Nat} {v:Rat} (h:EO k x v):Go.Desk.fval k x=v:=by
 obtain ⟨s,m,e,h1,h2,-⟩:=h
 unfold Go.Desk.fval;rw[h1];exact h2.symm
theorem EO.fin {x:Nat} {v:Rat} (h:EO .f32 x v):Cs x=true:=by
 obtain ⟨s,m,e,h1,-⟩:=h
 have:=(E4 h1).1
 unfold Cs
 exact decide_eq_true this
theorem Tj {x:Nat} {v:Rat} (hx:Ps x) (h:EO .f32 x v):(0≤v→EO .f32 (Dd x) v)∧(v≤0→EO .f32 (Dd x) (-v)):=by
 have hn:=h.num
 obtain ⟨s,m,e,h1,rfl,h2,h3⟩:=h
 have hs:Dd x=x % 2147483648:=by unfold Dd;rw[hn];rfl
 have h4:FloatKind.f32.decode (Dd x) = .number false m e:=by rw[hs];exact OR.1 s m e h1
 have h5:=E3 h4
 have hnn:=A0 m e
 rw[CV] at h5
 constructor
 ·intro h
  cases s <;>simp only[FM,CV] at h ⊢
  ·exact h5
  ·have:mv m e=0:=by grind
   rw[this] at h5 ⊢;simpa using h5
 ·intro h
  cases s <;>simp only[FM,CV] at h ⊢
  ·have:mv m e=0:=by grind
   rw[this] at h5 ⊢;simpa using h5
  ·rw[Rat.neg_neg];exact h5
def HO (x:Nat):Bool:=Cs x&&(x % 2147483648==0||(decide (1031798784≤x % 2147483648)&&decide (x % 2147483648≤1091829760)))
theorem R0:∀ m:Nat,m<129→(HO (fdiv .f32 (FloatKind.f32.nearest ((m:Int) - 64)) 1088421888)&&HO (fdiv .f32 (FloatKind.f32.nearest ((m:Int) - 64)) 1098907648))=true:=by decide +kernel
theorem KB.ok {x:Nat} (h:KB x):HO x=true:=by
 obtain ⟨m,hm,h⟩:=h
 obtain ⟨k,hk⟩:=Int.eq_ofNat_of_zero_le (show 0≤m+64 by omega)
 have hm':m=(k:Int) - 64:=by omega
 have:=R0 k (by omega)
 rw[← hm',zB] at this
 rcases h with rfl | rfl
 ·exact this.1
 ·exact this.2
theorem KB.fin {x:Nat} (h:KB x):Cs x=true:=by
 have:=h.ok
 unfold HO at this
 rw[zB] at this
 exact this.1
theorem Ri (x:Nat) (s:Bool) (m:Nat) (e:Int) (h:FloatKind.f32.decode x = .number s m e):EO .f32 x (sg s (mv m e)):=E3 h
theorem KB.val {x:Nat} (h:KB x):∃ v,EO .f32 (Dd x) v∧(v=0∨1 / 16≤v)∧0≤v∧v≤10∧(fval .f32 x=v∨fval .f32 x = -v):=by
 have hf:=h.fin
 have hok:=h.ok
 have hw:=h.w32
 have hv:=UX hf
 obtain ⟨s1,s2⟩:=Tj hw hv
 have hn:=Qg hf
 have hs:Dd x=x % 2147483648:=by unfold Dd;rw[hn];rfl
 have hex:∃ v,EO .f32 (Dd x) v∧0≤v∧(fval .f32 x=v∨fval .f32 x = -v):=by
  rcases (Rat.le_total:(0:Rat)≤fval .f32 x∨fval .f32 x≤0) with h1 | h1
  ·exact ⟨_,s1 h1,h1,.inl rfl⟩
  ·exact ⟨_,s2 h1,by grind,.inr (by grind)⟩
 obtain ⟨v,q1,q2,q3⟩:=hex
 refine ⟨v,q1,?_,q2,?_,q3⟩
 ·unfold HO at hok
  simp only[zB,Bool.or_eq_true,beq_iff_eq,decide_eq_true_eq] at hok
  rcases hok.2 with h0 | ⟨h1,-⟩
  ·rw[← hs] at h0
   rw[h0] at q1
   exact .inl (q1.inj (TG .f32))
  ·refine .inr ?_
   have hc:EO .f32 1031798784 (1 / 16):=by
    have:=Ri 1031798784 false (2 ^ 23) (-27) (by decide)
    rw[CV,DQ] at this
    have e:p2 (-27+((23:Nat):Int)) * 16=1:=by
     have h4:=Jh (-27+((23:Nat):Int)) 4
     have h16:p2 4=16:=by have:=NI 4;rw[show ((4:Nat):Int)=4 from rfl] at this;rw[this];rfl
     rw[h16] at h4;rw[← h4,show (-27:Int)+((23:Nat):Int)+4=0 by decide,GD]
    have e2:p2 (-27+((23:Nat):Int))=1 / 16:=by grind
    rw[e2] at this;exact this
   have:=(UH q1 hc).1 (by
    rw[T1];unfold Lj
    rw[q1.num,hc.num,Qu (by omega),Qu (by omega),if_pos (by omega),if_pos (by omega)]
    simp;omega)
   exact this
 ·unfold HO at hok
  simp only[zB,Bool.or_eq_true,beq_iff_eq,decide_eq_true_eq] at hok
  have hle:x % 2147483648≤1091829760:=by rcases hok.2 with h0 | ⟨-,h1⟩ <;>omega
  have hc:EO .f32 1092616192 10:=by
   have:=ER (k:=.f32) (n:=10) (by decide)
   rwa [show FloatKind.f32.nearest 10=1092616192 by decide] at this
  refine (T6 q1 hc).1 ?_
  rw[Uj];unfold Lj
  rw[q1.num,hc.num,Qu (by omega),Qu (by omega),if_pos (by omega),if_pos (by omega)]
  simp;omega
def Tg (at_ re:Nat) (l x:Nat):Nat:=QP (E9 .f32 l (Co .f32 (if Qy .f32 (Dd x) l then at_ else re) (E8 .f32 (Dd x) l)))
def YE (l t r:Nat):Nat:=if Qy .f32 l t then fdiv .f32 (E9 .f32 t (fdiv .f32 (E8 .f32 l t) r)) l else 1065353216
def PM (a r t q:Nat) (l:Nat) (x:Nat × Nat):Nat × Nat:=(Co .f32 x.1 (YE (Tg a r l x.2) t q),Tg a r l x.2)
theorem Pa:2 * FloatKind.f32.format.binade=16777216:=by decide
def U1 (w:List Nat):Nat:=w.getD 0 0
def Yu (w:List Nat):Prop:=∀ y∈w,Ps y
theorem Um {a b:Int} (ha:a.natAbs≤16777216) (hb:b.natAbs≤16777216) (hab:(a * b).natAbs≤16777216) (h0:a * b≠0):Co .f32 (FloatKind.f32.nearest a) (FloatKind.f32.nearest b)=FloatKind.f32.nearest (a * b):=by
 have b32:2 * FloatKind.f32.format.binade=16777216:=Pa
 have va:=ER (k:=.f32) (n:=a) (by rw[b32];exact ha)
 have vb:=ER (k:=.f32) (n:=b) (by rw[b32];exact hb)
 have hab':(a * b).natAbs≤2 * FloatKind.f32.format.binade:=by rw[b32];exact hab
 have hv:(a:Rat) * (b:Rat)=((a * b:Int):Rat):=(Rat.intCast_mul _ _).symm
 obtain ⟨h1,h2⟩:=Na (n:=a * b)
 obtain ⟨R,h3,h4⟩:=Qm va vb (Ea .f32 hab') (GH .f32 hab') (by rw[hv];exact h1) (by rw[hv];exact h2)
 rw[hv] at h4
 have h5:=h3.near_eq h4 (Qr hab')
 exact KE (Tx _ _ _) (LV _ _) h5 (ER hab') (by exact_mod_cast h0)
theorem PY:FloatKind.f32.nearest 1=1065353216:=by decide
theorem one_mul {a:Int} (h : -1000000≤a∧a≤1000000):Co .f32 1065353216 (FloatKind.f32.nearest a)=FloatKind.f32.nearest a:=by
 by_cases h0:a=0
 ·subst h0;decide
 ·have:=Um (a:=1) (b:=a) (by decide) (by omega) (by omega) (by omega)
  rw[PY,Int.one_mul] at this
  exact this
theorem Ma {a:Int} (h : -1000000≤a∧a≤1000000):a.natAbs≤2 * FloatKind.f32.format.binade:=by
 rw[show 2 * FloatKind.f32.format.binade=16777216 from Pa];omega
theorem add_zero {a:Int} (h : -1000000≤a∧a≤1000000):E9 .f32 (FloatKind.f32.nearest a) 0=FloatKind.f32.nearest a:=by
 have:=Uo (k:=.f32) (a:=a) (b:=0) (Ma h) (by decide) (by simpa using Ma h)
 rw[GJ] at this
 simpa using this
end Go.Desk
namespace Go.Desk
open Go
end Go.Desk
end
section
namespace Go.Proofs.Ytdobhipbgpiceaa.DS
open Go Go.Desk Go.Shelf Go.RowKit Go.Lib Go.Sort
set_option linter.unusedVariables false
abbrev Zc:={v:Value // v.oneCell'=true}
instance:Inhabited Zc:=⟨⟨.bool true,rfl⟩⟩
theorem O4 {P:Program} (w:World) (tS tR e:TypeId) (i:TypeInfo) (ht:P.underlying tS=some (.slice e)) (hi:P.info? e=some i) (vb voff la ca b off lb cb:Nat) (hne:vb≠b)
  {row vrow:Array Value} {ve be:TypeId} {fr vfr:Nat × Nat} (hb:w.heap[b]?=some (.cells row be fr)) (hvb:w.heap[vb]?=some (.cells vrow ve vfr)) (hr:0<row.size) (hv:voff≤vrow.size) (hf:∀ j,voff≤j→¬ (vfr.1≤j∧j<vfr.2)) :
  (Extern.SlicesOverlaps.overlaps #[tS,tS] #[tR] #[.slice (some ⟨vb,voff,none⟩) la ca,.slice (some ⟨b,off,none⟩) lb cb]).run P w = .ok (.bool false) w :=
 run_overlaps_apart w tS tR e ht i.size (fun w=>by simp[sizeOf,typeInfo,hi]) ⟨vb,voff,none⟩ ⟨b,off,none⟩ la ca lb cb hne ve be vrow.size row.size (Oh hvb) (Oh hb) (by omega)
  (by rw[Jq hvb];have:=hf voff (Nat.le_refl _);simp only[Bool.and_eq_false_iff,decide_eq_false_iff_not];omega)
  (by rw[Jq hvb];have:=hf vrow.size hv;simp only[Bool.and_eq_false_iff,decide_eq_false_iff_not];omega)
structure Nt (P:Program) (f O S E I W:Nat) (i0:TypeInfo) (z:Value):Prop where
 enter:∀ xs w,(callFunc f xs).run P w = .ok (.enter f xs) w
 ht:P.underlying S=some (.slice E)
 hI:P.underlying I=some (.int .i64)
 hi:P.info? E=some i0
 hz:i0.zero=some z
 hsz:i0.size=W
 hb:i0.bytes≤1024
 hzc:z.cells.size=W
 over:∀ x w,(callFunc O x).run P w=((Extern.SlicesOverlaps.overlaps #[S,S] #[I] x).run P w).andThen fun v w' => .ok (.value v) w'
 shift:∀ (w W1 W2:World) (b off n cap i vb voff m vc:Nat) (hm:0<m) (hin:i<n) (hroom:n+m≤cap) (hn63:n+m≤9223372036854775807)
  (hov:∀ lb cb,(callFunc O #[.slice (some ⟨vb,voff,none⟩) m vc,.slice (some ⟨b,off+(i+m) * W,none⟩) lb cb]).run P w = .ok (.value (.bool false)) w)
  (hcp1:∀ ty dc sc,(Builtin.copy_ #[S,S] ty #[.slice (some ⟨b,off+(i+m) * W,none⟩) (n+m - (i+m)) dc,.slice (some ⟨b,off+i * W,none⟩) (n+m - i) sc]).run P w.drew = .ok (goInt (n - i:Nat)) W1)
  (hcp2:∀ ty dc,(Builtin.copy_ #[S,S] ty #[.slice (some ⟨b,off+i * W,none⟩) (n+m - i) dc,.slice (some ⟨vb,voff,none⟩) m vc]).run P W1 = .ok (goInt m) W2),
  Calls P f #[.slice (some ⟨b,off,none⟩) n cap,.int .i64 i,.slice (some ⟨vb,voff,none⟩) m vc] w fun e w'=>e = .returned (.slice (some ⟨b,off,none⟩) (n+m) cap)∧w'=W2
 atEnd:∀ (w W1:World) (x:Value) (b off n cap vb voff m vc:Nat) (hm:0<m)
  (hrun:∀ ty,(Builtin.append_ #[S,S] ty #[.slice (some ⟨b,off,none⟩) n cap,.slice (some ⟨vb,voff,none⟩) m vc]).run P w = .ok x W1),
  Calls P f #[.slice (some ⟨b,off,none⟩) n cap,.int .i64 n,.slice (some ⟨vb,voff,none⟩) m vc] w fun e w'=>e = .returned x∧w'=W1
 grow:∀ (w W1 W2 W3:World) (b off n cap i vb voff m vc nb G:Nat) (hm:0<m) (hin:i<n) (hroom:cap<n+m) (hnc:n≤cap) (hn63:n+m≤9223372036854775807) (hG:n+m≤G)
  (hrz:∀ ty,(Builtin.append_ #[S,I] ty #[.slice (some ⟨b,off,none⟩) i cap,.int .i64 ((n:Int)+(m:Int) - (i:Int))]).run P w = .ok (.slice (some ⟨nb,0,none⟩) (n+m) G) W1)
  (hcp1:∀ ty dc,(Builtin.copy_ #[S,S] ty #[.slice (some ⟨nb,i * W,none⟩) (n+m - i) dc,.slice (some ⟨vb,voff,none⟩) m vc]).run P W1 = .ok (goInt m) W2)
  (hcp2:∀ ty dc sc,(Builtin.copy_ #[S,S] ty #[.slice (some ⟨nb,(i+m) * W,none⟩) (n+m - (i+m)) dc,.slice (some ⟨b,off+i * W,none⟩) (n - i) sc]).run P W2.drew = .ok (goInt (n - i:Nat)) W3),
  Calls P f #[.slice (some ⟨b,off,none⟩) n cap,.int .i64 i,.slice (some ⟨vb,voff,none⟩) m vc] w fun e w'=>e = .returned (.slice (some ⟨nb,0,none⟩) (n+m) G)∧w'=W3
theorem Us {row:Array Value} {off N i m:Nat} (h:off+N≤row.size) (hi:i≤N):seg row off N=(seg row off N).take i++(seg row off N).drop i∧(seg row off N).take i=seg row off i∧(seg row off N).drop i=seg row (off+i) (N - i):=by
 refine ⟨(take_append_drop _ _).symm,?_,?_⟩
 ·have:=CA (row:=row) (o:=off) (n:=N) (i:=0) (m:=i) (by omega)
  simpa using this
 ·have:=CA (row:=row) (o:=off) (n:=N) (i:=i) (m:=N - i) (by omega)
  rw[← this,take_of_length_le]
  rw[length_drop,Ds h]
  omega
theorem Nt.run {P:Program} {f O S E I W:Nat} {i0:TypeInfo} {z:Value} (K:Nt P f O S E I W i0 z) (hW:0<W):P7 P f W where
 enter:=K.enter
 run:=by
  intro w b off n cap i vb voff vc vs us row vrow e ve fr vfr hb hvb hne hsz hvsz hvs hus h1 h2 hfr hvfr hn0 hn hi hbig hvc
  have hsW:=K.hsz
  have hmn:n * W≤cap * W:=Nat.mul_le_mul_right _ hn
  have hin':i * W≤n * W:=Nat.mul_le_mul_right _ hi
  have hvl:vs.length=n * W:=by rw[← hvs,Ds (by omega)]
  have hul:us.length=W:=by rw[← hus,Ds hvsz]
  have hm1:(n+1) * W=n * W+W:=Nat.succ_mul _ _
  have hi1:(i+1) * W=i * W+W:=Nat.succ_mul _ _
  have hni:(n - i) * W=n * W - i * W:=Nat.sub_mul _ _ _
  obtain ⟨-,m1,m2⟩:=Us (row:=row) (off:=off) (N:=n * W) (i:=i * W) (m:=0) (by omega) hin'
  rw[hvs] at m1 m2
  have hsrc:∀ w1:World,w1.heap=w.heap→(Builtin.firstCells i0.size 1 (.slice (some ⟨vb,voff,none⟩) 1 vc)).run P w1 = .ok us.toArray w1:=fun w1 hw1=>by
   rw[hsW]
   have:=BL (P:=P) (w:=w1) (b:=vb) (off:=voff) (n:=1) (cap:=vc) (size:=W) (row:=vrow) (e:=ve) (fr:=vfr) (by rw[hw1];exact hvb) (by omega)
   rw[Nat.one_mul,hus] at this
   exact this
  have hlen:∀ w1,(Builtin.lenOf (.slice (some ⟨vb,voff,none⟩) 1 vc)).run P w1 = .ok 1 w1:=fun w1=>rfl
  rcases Nat.lt_or_ge i n with hlt | hge
  ·have hdl:(vs.drop (i * W)).length=(n - i) * W:=by rw[length_drop,hvl,hni]
   have hone:∀ v∈vs.drop (i * W),v.oneCell'=true:=fun v hv=>h1 v (List.mem_of_mem_drop hv)
   have hsh:n+1 - (i+1)=n - i:=by omega
   by_cases hroom:n+1≤cap
   ·
    have hmr:(n+1) * W≤cap * W:=Nat.mul_le_mul_right _ hroom
    have hbd:w.drew.heap[b]?=some (.cells row e fr):=hb
    have hvd:w.drew.heap[vb]?=some (.cells vrow ve vfr):=hvb
    have c1:∀ ty dc sc,(Builtin.copy_ #[S,S] ty #[.slice (some ⟨b,off+(i+1) * W,none⟩) (n+1 - (i+1)) dc,.slice (some ⟨b,off+i * W,none⟩) (n+1 - i) sc]).run P w.drew = .ok (goInt (n - i:Nat)) (Di w.drew b (off+(i+1) * W) (vs.drop (i * W))):=by
     intro ty dc sc
     have:=Dz (P:=P) (w:=w.drew) (dT:=S) (sT:=S) (ty:=ty) K.ht K.hi (o:=off+(i+1) * W) (dl:=n+1 - (i+1)) (dc:=dc) (so:=off+i * W) (sl:=n+1 - i) (sc:=sc) (m:=n - i) hbd hbd (by simp only[Nat.min_def];split <;>omega)
      (by rw[hsW];omega) (by rw[hsW];omega) (fun j a=>hfr j (by omega)) (by rw[hsW,hni,← m2];exact hone)
     rw[hsW,hni,← m2] at this
     exact this
    obtain ⟨row1,a1,a2,a3,a4⟩:=CG (vs.drop (i * W)) w.drew b (off+(i+1) * W) row e fr hbd (by rw[hdl];omega)
    obtain ⟨vrow1,vfr1,v1,v2,v3,-⟩:=(Cq (vs.drop (i * W)) w.drew b (off+(i+1) * W)).cells vb vrow ve vfr hvd
    have hvs1:seg vrow1 voff W=us:=by rw[← hus];exact Ah fun j _ _=>v3 j fun h=>hne h.1
    have c2:∀ ty dc,(Builtin.copy_ #[S,S] ty #[.slice (some ⟨b,off+i * W,none⟩) (n+1 - i) dc,.slice (some ⟨vb,voff,none⟩) 1 vc]).run P (Di w.drew b (off+(i+1) * W) (vs.drop (i * W))) = .ok (goInt (1:Nat)) (Di (Di w.drew b (off+(i+1) * W) (vs.drop (i * W))) b (off+i * W) us):=by
     intro ty dc
     have:=Dz (P:=P) (w:=Di w.drew b (off+(i+1) * W) (vs.drop (i * W))) (dT:=S) (sT:=S) (ty:=ty) K.ht K.hi (o:=off+i * W) (dl:=n+1 - i) (dc:=dc) (so:=voff) (sl:=1) (sc:=vc) (m:=1) a1 v1 (by simp only[Nat.min_def];split <;>omega)
      (by rw[hsW,a2];omega) (by rw[hsW,v2];omega) (fun j a=>hfr j (by omega)) (by rw[hsW,Nat.one_mul,hvs1];exact h2)
     rw[hsW,Nat.one_mul,hvs1] at this
     exact this
    obtain ⟨row2,b1,b2,b3,b4⟩:=CG us _ b (off+i * W) row1 e fr a1 (by rw[hul];omega)
    refine (K.shift w _ _ b off n cap i vb voff 1 vc (by omega) hlt hroom (by omega) (fun lb cb => ?_) c1 c2).mono ?_
    ·rw[K.over,O4 w S I E i0 K.ht K.hi vb voff 1 vc b _ lb cb hne hb hvb (by omega) (by omega) hvfr]
     rfl
    rintro x w' ⟨rfl,rfl⟩
    refine ⟨b,off,cap,rfl,hroom,row2,e,fr,b1,by rw[b2,a2];omega,?_,hfr,.inl ⟨rfl,rfl,rfl,?_⟩⟩
    ·have e1:(n+1) * W=i * W+(W+(n - i) * W):=by rw[hni];omega
     rw[e1,Ft,Ft,append_assoc]
     rw[hdl] at a3 a4
     rw[hul] at b3 b4
     congr 1
     ·rw[m1]
      exact Ah fun j p q=>(b4 j (by omega)).trans (a4 j (by omega))
     ·rw[b3]
      congr 1
      rw[show off+i * W+W=off+(i+1) * W by omega,← a3]
      exact Ah fun j p q=>b4 j (by omega)
    ·have x1:=Cq (vs.drop (i * W)) w.drew b (off+(i+1) * W)
     have x2:=Cq us (Di w.drew b (off+(i+1) * W) (vs.drop (i * W))) b (off+i * W)
     rw[hdl] at x1
     rw[hul] at x2
     exact (Jk w (fun _ _=>False)).trans (x1.trans x2 (W'' :=fun b' t=>b'=b∧off≤t∧t<off+cap * W) (fun b' t h=>⟨h.1,by omega,by omega⟩) (fun b' t _ h=>⟨h.1,by omega,by omega⟩)) (fun _ _ h=>h.elim) (fun _ _ _ h=>h)
   ·
    have hroom:cap<n+1:=by omega
    have hkk:(n:Int)+((1:Nat):Int) - (i:Int)=((n+1 - i:Nat):Int):=by omega
    have hik:i+(n+1 - i)=n+1:=by omega
    have hold:(Builtin.firstCells i0.size i (.slice (some ⟨b,off,none⟩) i cap)).run P w.drew = .ok (vs.take (i * W)).toArray w.drew:=by
     rw[hsW,m1]
     exact BL (w:=w.drew) (b:=b) (row:=row) (e:=e) (fr:=fr) hb (by omega)
    have hgcap:=grownCap_ge w (n+1) cap E
    have hncap:Builtin.nextslicecap (n+1) cap≤2 * (n+1):=nextslicecap_le hroom
    have hrz:∀ ty,(Builtin.append_ #[S,I] ty #[.slice (some ⟨b,off,none⟩) i cap,.int .i64 ((n:Int)+((1:Nat):Int) - (i:Int))]).run P w =
      .ok (.slice (some ⟨w.heap.size,0,none⟩) (n+1) (grownCap w (n+1) cap E)) (w.drew.alloc (.cells ((vs.take (i * W)).toArray++Builtin.zeroCells z.cells (n+1 - i)++Builtin.zeroCells z.cells (grownCap w (n+1) cap E - (n+1))) E)):=by
     intro ty
     have hb1:=K.hb
     have k1:(n+1 - i) * i0.bytes≤1000001 * 1024:=Nat.mul_le_mul (by omega) hb1
     have k2:Builtin.nextslicecap (n+1) cap * i0.bytes≤2000002 * 1024:=Nat.mul_le_mul (by omega) hb1
     have h:=Lib.run_append_grow_zeros w S I ty E i0 z .i64 .i64 K.ht K.hI K.hi K.hz (some ⟨b,off,none⟩) i cap (vs.take (i * W)) hold (n+1 - i) (by omega) (by rw[hsW];exact hW) (by omega) (by omega) (Nat.le_trans k1 (by decide)) (by rw[hik];exact Nat.le_trans k2 (by decide))
     rw[hik] at h
     rw[hkk]
     exact h
    generalize hG:grownCap w (n+1) cap E=G at hrz hgcap
    obtain ⟨ROW,hROW⟩:∃ ROW:Array Value,ROW=(vs.take (i * W)).toArray++Builtin.zeroCells z.cells (n+1 - i)++Builtin.zeroCells z.cells (G - (n+1)):=⟨_,rfl⟩
    rw[← hROW] at hrz
    have hz1:∀ k,(Builtin.zeroCells z.cells k).size=k * W:=fun k=>by simp[Builtin.zeroCells,K.hzc]
    have hRs:ROW.size=G * W:=by
     rw[hROW,Array.size_append,Array.size_append,hz1,hz1]
     have q1:(n+1 - i) * W=(n+1) * W - i * W:=Nat.sub_mul _ _ _
     have q2:(G - (n+1)) * W=G * W - (n+1) * W:=Nat.sub_mul _ _ _
     have q3:(n+1) * W≤G * W:=Nat.mul_le_mul_right _ hgcap
     have q4:(vs.take (i * W)).toArray.size=i * W:=by rw[List.size_toArray,length_take,hvl];exact Nat.min_eq_left hin'
     omega
    have hGm:(n+1) * W≤G * W:=Nat.mul_le_mul_right _ hgcap
    have hnew:(w.drew.alloc (.cells ROW E)).heap[w.heap.size]?=some (.cells ROW E (0,0)):=Ep (w:=w.drew) (.cells ROW E)
    have hxa:Al w (w.drew.alloc (.cells ROW E)) (fun _ _=>False):=(Jk w _).trans (Al.alloc w.drew _ _) (fun _ _ h=>h) (fun _ _ _ h=>h)
    obtain ⟨vrow1,vfr1,v1,v2,v3,-⟩:=hxa.cells vb vrow ve vfr hvb
    have hvs1:seg vrow1 voff W=us:=by rw[← hus];exact Ah fun j _ _=>v3 j fun h=>h
    have hvn:vb≠w.heap.size:=fun h=>by rw[h,Array.getElem?_eq_none (Nat.le_refl _)] at hvb;cases hvb
    have hbn:b≠w.heap.size:=fun h=>by rw[h,Array.getElem?_eq_none (Nat.le_refl _)] at hb;cases hb
    have c1:∀ ty dc,(Builtin.copy_ #[S,S] ty #[.slice (some ⟨w.heap.size,i * W,none⟩) (n+1 - i) dc,.slice (some ⟨vb,voff,none⟩) 1 vc]).run P (w.drew.alloc (.cells ROW E)) = .ok (goInt (1:Nat)) (Di (w.drew.alloc (.cells ROW E)) w.heap.size (i * W) us):=by
     intro ty dc
     have:=Dz (P:=P) (w:=w.drew.alloc (.cells ROW E)) (dT:=S) (sT:=S) (ty:=ty) K.ht K.hi (o:=i * W) (dl:=n+1 - i) (dc:=dc) (so:=voff) (sl:=1) (sc:=vc) (m:=1) hnew v1 (by simp only[Nat.min_def];split <;>omega)
      (by rw[hsW];omega) (by rw[hsW,v2];omega) (fun j a=>by simp) (by rw[hsW,Nat.one_mul,hvs1];exact h2)
     rw[hsW,Nat.one_mul,hvs1] at this
     exact this
    obtain ⟨row1,a1,a2,a3,a4⟩:=CG us _ w.heap.size (i * W) ROW E (0,0) hnew (by rw[hul];omega)
    have x1:=Cq us (w.drew.alloc (.cells ROW E)) w.heap.size (i * W)
    obtain ⟨row0,fr0,d1,d2,d3,-⟩:=(hxa.trans x1 (W'' :=fun b' t=>b'=w.heap.size) (fun _ _ h=>h.elim) (fun b' t _ h=>h.1)).cells b row e fr hb
    have hvd:seg row0 (off+i * W) ((n - i) * W)=vs.drop (i * W):=by
     rw[m2,hni]
     exact Ah fun j _ _=>d3 j hbn
    have a1d:(Di (w.drew.alloc (.cells ROW E)) w.heap.size (i * W) us).drew.heap[w.heap.size]?=some (.cells row1 E (0,0)):=a1
    have d1d:(Di (w.drew.alloc (.cells ROW E)) w.heap.size (i * W) us).drew.heap[b]?=some (.cells row0 e fr0):=d1
    have c2:∀ ty dc sc,(Builtin.copy_ #[S,S] ty #[.slice (some ⟨w.heap.size,(i+1) * W,none⟩) (n+1 - (i+1)) dc,.slice (some ⟨b,off+i * W,none⟩) (n - i) sc]).run P (Di (w.drew.alloc (.cells ROW E)) w.heap.size (i * W) us).drew = .ok (goInt (n - i:Nat)) (Di (Di (w.drew.alloc (.cells ROW E)) w.heap.size (i * W) us).drew w.heap.size ((i+1) * W) (vs.drop (i * W))):=by
     intro ty dc sc
     have:=Dz (P:=P) (dT:=S) (sT:=S) (ty:=ty) K.ht K.hi (o:=(i+1) * W) (dl:=n+1 - (i+1)) (dc:=dc) (so:=off+i * W) (sl:=n - i) (sc:=sc) (m:=n - i) a1d d1d (by simp only[Nat.min_def];split <;>omega)
      (by rw[hsW,a2];omega) (by rw[hsW,d2];omega) (fun j a=>by simp) (by rw[hsW,hvd];exact hone)
     rw[hsW,hvd] at this
     exact this
    obtain ⟨row2,b1,b2,b3,b4⟩:=CG (vs.drop (i * W)) _ w.heap.size ((i+1) * W) row1 E (0,0) a1d (by rw[hdl,a2];omega)
    refine (K.grow w _ _ _ b off n cap i vb voff 1 vc w.heap.size G (by omega) hlt hroom hn (by omega) hgcap hrz c1 c2).mono ?_
    rintro x w' ⟨rfl,rfl⟩
    refine ⟨w.heap.size,0,G,rfl,hgcap,row2,E,(0,0),b1,by rw[b2,a2];omega,?_,fun j _=>by simp,.inr ⟨Nat.le_refl _,?_⟩⟩
    ·have e1:(n+1) * W=i * W+(W+(n - i) * W):=by rw[hni];omega
     rw[e1,Ft,Ft,append_assoc]
     rw[hdl] at b3 b4
     rw[hul] at a3 a4
     congr 1
     ·have e2:seg ROW 0 (i * W)=vs.take (i * W):=by
       rw[hROW,seg]
       simp only[drop_zero,Array.toList_append,append_assoc]
       rw[List.toList_toArray,take_left' (by rw[length_take,hvl];exact Nat.min_eq_left hin')]
      rw[← e2]
      exact Ah fun j p q=>(b4 j (by omega)).trans (a4 j (by omega))
     ·rw[Nat.zero_add]
      congr 1
      ·rw[← a3]
       exact Ah fun j p q=>b4 j (by omega)
      ·rw[show i * W+W=(i+1) * W by omega,← b3]
    ·have x2:=Cq (vs.drop (i * W)) (Di (w.drew.alloc (.cells ROW E)) w.heap.size (i * W) us).drew w.heap.size ((i+1) * W)
     have x3:=((hxa.trans x1 (W'' :=fun b' t=>b'=w.heap.size) (fun _ _ h=>h.elim) (fun b' t _ h=>h.1)).drew).trans x2 (W'' :=fun b' t=>b'=w.heap.size) (fun _ _ h=>h) (fun b' t _ h=>h.1)
     exact x3.mono fun b' t hb' h=>by have h:b'=w.heap.size:=h;omega
  ·obtain rfl:i=n:=by omega
   have htk:vs.take (i * W)=vs:=take_of_length_le (by omega)
   have hdr:vs.drop (i * W)=[]:=drop_eq_nil_of_le (by omega)
   rw[htk,hdr,append_nil]
   by_cases hroom:i+1≤cap
   ·have hmr:(i+1) * W≤cap * W:=Nat.mul_le_mul_right _ hroom
    have hrun:∀ ty,(Builtin.append_ #[S,S] ty #[.slice (some ⟨b,off,none⟩) i cap,.slice (some ⟨vb,voff,none⟩) 1 vc]).run P w = .ok (.slice (some ⟨b,off,none⟩) (i+1) cap) (Di w b (off+i * W) us):=by
     intro ty
     have:=Hj (P:=P) (w:=w) (t1:=S) (t2:=S) (ty:=ty) K.ht (.inr ⟨_,K.ht⟩) K.hi (b:=b) (off:=off) (n:=i) (cap:=cap) (m:=1) (x:=.slice (some ⟨vb,voff,none⟩) 1 vc) (vs:=us) hb hlen (hsrc w rfl) hroom (by rw[hsW,hul];omega) (by rw[hsW];exact fun j a _=>hfr j (by omega)) h2
     rw[hsW] at this
     exact this
    obtain ⟨row1,a1,a2,a3,a4⟩:=CG us w b (off+i * W) row e fr hb (by rw[hul];omega)
    refine (K.atEnd w _ _ b off i cap vb voff 1 vc (by omega) hrun).mono ?_
    rintro x w' ⟨rfl,rfl⟩
    refine ⟨b,off,cap,rfl,hroom,row1,e,fr,a1,by rw[a2];omega,?_,hfr,.inl ⟨rfl,rfl,rfl,?_⟩⟩
    ·rw[hm1,Ft]
     rw[hul] at a3 a4
     rw[a3]
     congr 1
     rw[← hvs]
     exact Ah fun j p q=>a4 j (by omega)
    ·have x1:=Cq us w b (off+i * W)
     rw[hul] at x1
     exact x1.mono fun b' t _ h=>⟨h.1,by omega,by omega⟩
   ·have hroom:cap<i+1:=by omega
    have hgcap:=grownCap_ge w (i+1) cap E
    have hrun:∀ ty,(Builtin.append_ #[S,S] ty #[.slice (some ⟨b,off,none⟩) i cap,.slice (some ⟨vb,voff,none⟩) 1 vc]).run P w = .ok (.slice (some ⟨w.heap.size,0,none⟩) (i+1) (grownCap w (i+1) cap E))
      (w.drew.alloc (.cells (vs.toArray++us.toArray++Builtin.zeroCells z.cells (grownCap w (i+1) cap E - (i+1))) E)):=by
     intro ty
     exact Fk (P:=P) (w:=w) (t1:=S) (t2:=S) (ty:=ty) (z:=z) K.ht (.inr ⟨_,K.ht⟩) K.hi K.hz (n:=i) (cap:=cap) (m:=1) (olds:=vs.toArray) (vs:=us.toArray) hlen
      (fun w1 hw1=>by
        have:=BL (P:=P) (w:=w1) (b:=b) (off:=off) (n:=i) (cap:=cap) (size:=W) (row:=row) (e:=e) (fr:=fr) (by rw[hw1];exact hb) (by omega)
        rw[hvs] at this
        rw[hsW];exact this) hsrc hroom (by unfold lim;omega) K.hb
    generalize grownCap w (i+1) cap E=G at hrun hgcap
    obtain ⟨ROW,hROW⟩:∃ ROW:Array Value,ROW=vs.toArray++us.toArray++Builtin.zeroCells z.cells (G - (i+1)):=⟨_,rfl⟩
    rw[← hROW] at hrun
    have hz1:∀ k,(Builtin.zeroCells z.cells k).size=k * W:=fun k=>by simp[Builtin.zeroCells,K.hzc]
    have q2:(G - (i+1)) * W=G * W - (i+1) * W:=Nat.sub_mul _ _ _
    have q3:(i+1) * W≤G * W:=Nat.mul_le_mul_right _ hgcap
    have hRs:ROW.size=G * W:=by
     rw[hROW,Array.size_append,Array.size_append,hz1]
     simp only[List.size_toArray]
     omega
    have hnew:(w.drew.alloc (.cells ROW E)).heap[w.heap.size]?=some (.cells ROW E (0,0)):=Ep (w:=w.drew) (.cells ROW E)
    have hxa:Al w (w.drew.alloc (.cells ROW E)) (fun _ _=>False):=(Jk w _).trans (Al.alloc w.drew _ _) (fun _ _ h=>h) (fun _ _ _ h=>h)
    refine (K.atEnd w _ _ b off i cap vb voff 1 vc (by omega) hrun).mono ?_
    rintro x w' ⟨rfl,rfl⟩
    refine ⟨w.heap.size,0,G,rfl,hgcap,ROW,E,(0,0),hnew,by omega,?_,fun j _=>by simp,.inr ⟨Nat.le_refl _,hxa⟩⟩
    rw[hROW,seg]
    simp only[drop_zero,Array.toList_append,List.toList_toArray]
    rw[take_left' (by simp[hvl,hul];omega)]
set_option maxHeartbeats 4000000 in
set_option maxRecDepth 1000000 in
theorem SJ (w W1 W2:World) (b off n cap i vb voff m vc:Nat) (hm:0<m) (hin:i<n) (hroom:n+m≤cap) (hn63:n+m≤9223372036854775807)
  (hov:∀ lb cb,(callFunc 160 #[.slice (some ⟨vb,voff,none⟩) m vc,.slice (some ⟨b,off+(i+m) * 3,none⟩) lb cb]).run Try.prog w = .ok (.value (.bool false)) w)
  (hcp1:∀ ty dc sc,(Builtin.copy_ #[83,83] ty #[.slice (some ⟨b,off+(i+m) * 3,none⟩) (n+m - (i+m)) dc,.slice (some ⟨b,off+i * 3,none⟩) (n+m - i) sc]).run Try.prog w.drew = .ok (goInt (n - i:Nat)) W1)
  (hcp2:∀ ty dc,(Builtin.copy_ #[83,83] ty #[.slice (some ⟨b,off+i * 3,none⟩) (n+m - i) dc,.slice (some ⟨vb,voff,none⟩) m vc]).run Try.prog W1 = .ok (goInt m) W2) :
  Calls Try.prog 120 #[.slice (some ⟨b,off,none⟩) n cap,.int .i64 i,.slice (some ⟨vb,voff,none⟩) m vc] w fun e w'=>e = .returned (.slice (some ⟨b,off,none⟩) (n+m) cap)∧w'=W2:=by
 have hz1:¬ ((m:Int)=0):=by omega
 have hz2:¬ ((i:Int)=(n:Int)):=by omega
 have hw1:IntKind.i64.wrap ((i:Int)+(m:Int))=(i:Int)+(m:Int):=by rw[IntKind.wrap_i64];omega
 have hb1:(0:Int)≤(i:Int)+(m:Int):=by omega
 have hle:i≤n:=by omega
 have htn:((i:Int)+(m:Int)).toNat=i+m:=by omega
 have hb2:¬ (cap=i+m):=by omega
 have hb3:(i:Int)≤(n:Int)+(m:Int):=by omega
 have hb4:¬ (cap=i):=by omega
 have mixed:Try.prog.follows .mixedOrders=true:=Try.checked.mixed
 go_enter Try.func120,Try.ntmps120
 go_wp2_with (simp only[hov])
 go_region_law_o (refine step_copy_runI rfl _ _ 83 83 rfl _ _ (by simp[Act.eval,Act.put]) (by simp[Act.eval,Act.put]) (hcp1 _ _ _) ?_)
 go_wp2_with (at_builtin;refine wpList_copy_runI _ rfl _ _ 83 83 rfl _ _ rfl rfl (hcp2 _ _) ?_)
 go_ret
 exact ⟨rfl,rfl⟩
set_option maxHeartbeats 4000000 in
set_option maxRecDepth 1000000 in
theorem Sc (w W1:World) (x:Value) (b off n cap vb voff m vc:Nat) (hm:0<m)
  (hrun:∀ ty,(Builtin.append_ #[83,83] ty #[.slice (some ⟨b,off,none⟩) n cap,.slice (some ⟨vb,voff,none⟩) m vc]).run Try.prog w = .ok x W1) :
  Calls Try.prog 120 #[.slice (some ⟨b,off,none⟩) n cap,.int .i64 n,.slice (some ⟨vb,voff,none⟩) m vc] w fun e w'=>e = .returned x∧w'=W1:=by
 have hz1:¬ ((m:Int)=0):=by omega
 have mixed:Try.prog.follows .mixedOrders=true:=Try.checked.mixed
 go_enter Try.func120,Try.ntmps120
 go_wp2_with (at_builtin;refine Lib.wpList_append_run _ rfl _ _ _ _ rfl _ _ rfl rfl _ _ (hrun _) ?_)
 all_goals (go_ret;exact ⟨rfl,rfl⟩)
set_option maxHeartbeats 4000000 in
set_option maxRecDepth 1000000 in
theorem T9 (w W1 W2 W3:World) (b off n cap i vb voff m vc nb G:Nat) (hm:0<m) (hin:i<n) (hroom:cap<n+m) (hnc:n≤cap) (hn63:n+m≤9223372036854775807) (hG:n+m≤G)
  (hrz:∀ ty,(Builtin.append_ #[83,3] ty #[.slice (some ⟨b,off,none⟩) i cap,.int .i64 ((n:Int)+(m:Int) - (i:Int))]).run Try.prog w = .ok (.slice (some ⟨nb,0,none⟩) (n+m) G) W1)
  (hcp1:∀ ty dc,(Builtin.copy_ #[83,83] ty #[.slice (some ⟨nb,i * 3,none⟩) (n+m - i) dc,.slice (some ⟨vb,voff,none⟩) m vc]).run Try.prog W1 = .ok (goInt m) W2)
  (hcp2:∀ ty dc sc,(Builtin.copy_ #[83,83] ty #[.slice (some ⟨nb,(i+m) * 3,none⟩) (n+m - (i+m)) dc,.slice (some ⟨b,off+i * 3,none⟩) (n - i) sc]).run Try.prog W2.drew = .ok (goInt (n - i:Nat)) W3) :
  Calls Try.prog 120 #[.slice (some ⟨b,off,none⟩) n cap,.int .i64 i,.slice (some ⟨vb,voff,none⟩) m vc] w fun e w'=>e = .returned (.slice (some ⟨nb,0,none⟩) (n+m) G)∧w'=W3:=by
 have hz1:¬ ((m:Int)=0):=by omega
 have hz2:¬ ((i:Int)=(n:Int)):=by omega
 have hz3:(cap:Int)<(n:Int)+(m:Int):=by omega
 have hw1:IntKind.i64.wrap ((i:Int)+(m:Int))=(i:Int)+(m:Int):=by rw[IntKind.wrap_i64];omega
 have hb1:(0:Int)≤(i:Int)+(m:Int):=by omega
 have hle:i≤n:=by omega
 have htn:((i:Int)+(m:Int)).toNat=i+m:=by omega
 have hGi:¬ (G=i):=by omega
 have hGim:¬ (G=i+m):=by omega
 have hci:¬ (cap=i):=by omega
 have hb3:(i:Int)≤(n:Int):=by omega
 have mixed:Try.prog.follows .mixedOrders=true:=Try.checked.mixed
 go_enter Try.func120,Try.ntmps120
 go_wp2_with (first
  | (at_builtin;refine Lib.wpList_append_run _ rfl _ _ _ _ rfl _ _ rfl rfl _ _ (hrz _) ?_)
  | (at_builtin;refine wpList_copy_runI _ rfl _ _ 83 83 rfl _ _ rfl rfl (hcp1 _ _) ?_))
 go_region_law_o (refine step_copy_runI rfl _ _ 83 83 rfl (.slice (some ⟨nb,(i+m) * 3,none⟩) (n+m - (i+m)) (G - (i+m))) (.slice (some ⟨b,off+i * 3,none⟩) (n - i) (cap - i)) (by simp[Act.eval,Act.put]) (by simp[Act.eval,Act.put]) (hcp2 3 (G - (i+m)) (cap - i)) ?_)
 go_wp2
 go_ret
 exact ⟨rfl,rfl⟩
theorem UO:Nt Try.prog 120 160 83 91 3 3 Try.t91 (Value.agg #[.int .i64 0,.int .i64 0,.slice none 0 0]) where
 enter:=fun xs w=>by
  have h1 : Try.f120.name ≠ "runtime.NumGoroutine" := by
   have : (Try.f120.name == "runtime.NumGoroutine") = false := by kernel_rfl
   simpa using this
  have hs:Try.f120.body.isSome=true:=by kernel_rfl
  obtain ⟨c,hb⟩:=Option.isSome_iff_exists.1 hs
  simp[callFunc,Try.func120,h1,hb]
 ht:=Try.underlying83
 hI:=Try.underlying3
 hi:=by kernel_rfl
 hz:=by kernel_rfl
 hsz:=by kernel_rfl
 hb:=by decide
 hzc:=by rfl
 over:=fun x w=>by
  rw[run_callFunc_extern Try.func160 (by kernel_rfl) (by kernel_rfl) (by kernel_rfl) (e:=Extern.SlicesOverlaps.overlaps #[83,83] #[3]) (by kernel_rfl)]
 shift:=SJ
 atEnd:=Sc
 grow:=T9
theorem Vi:P7 Try.prog 120 3:=UO.run (by decide)
theorem ok120 {E:Aj}:Hw Try.prog E 120 (.sem [.io,.val,.io] (Nf [.leaf,.leaf,.sl .own [.leaf]])):=V7 (el:=[.leaf,.leaf,.sl .own [.leaf]]) Vi
theorem row3 {vs:List Value} {n i:Nat} (hl:vs.length=n * 3) (hi:i<n):∃ u0 u1 u2,(vs.drop (i * 3)).take 3=[u0,u1,u2]∧vs[i * 3]?=some u0∧vs[i * 3+1]?=some u1∧vs[i * 3+2]?=some u2:=by
 have h0:i * 3+2<vs.length:=by omega
 refine ⟨vs[i * 3],vs[i * 3+1],vs[i * 3+2],?_,by simp,by simp,by simp⟩
 rw[drop_eq_getElem_cons (by omega),take_succ_cons,drop_eq_getElem_cons (by omega),take_succ_cons,drop_eq_getElem_cons (by omega),take_succ_cons,take_zero]
theorem Te {w w':World} {W:Nat→Nat→Prop} (hx:Al w w' W) {b t:Nat} (hn:¬ W b t) {u:Value} (h:w.cell? ⟨b,t,none⟩=some u):w'.cell? ⟨b,t,none⟩=some u:=by
 cases hb:w.heap[b]? with
 | none=>simp[World.cell?,hb] at h
 | some o =>
   cases o with
   | cells row e fr =>
     rw[EX hb] at h
     obtain ⟨row',fr',h1,h2,h3,-⟩:=hx.cells b row e fr hb
     rw[EX h1,h3 t hn];exact h
   | _=>simp[World.cell?,hb] at h
abbrev ZW:Nat→Nat→Prop:=fun _ _=>False
theorem JB {α:Type} {W:Nat}:∀ (ps bs:List Bool) (xs:List α),Dl W (ps++bs) xs=Dl W ps xs++Dl W bs (xs.drop (ps.length * W))
 | [],bs,xs=>by simp[Dl]
 | true  ::ps,bs,xs=>by
   show Dl W (ps++bs) (xs.drop W)=Dl W ps (xs.drop W)++_
   rw[JB ps bs,drop_drop,length_cons,Nat.succ_mul,Nat.add_comm]
 | false  ::ps,bs,xs=>by
   show xs.take W++Dl W (ps++bs) (xs.drop W)=(xs.take W++Dl W ps (xs.drop W))++_
   rw[JB ps bs,drop_drop,length_cons,Nat.succ_mul,Nat.add_comm,append_assoc]
theorem IU:∀ (ps bs:List Bool),FF (ps++bs)=FF ps+FF bs
 | [],bs=>by simp[FF]
 | true  ::ps,bs=>IU ps bs
 | false  ::ps,bs=>by show FF (ps++bs)+1=FF ps+1+FF bs;rw[IU ps bs];omega
theorem HS {bs:List Bool} {j:Nat} {c:Bool} (h:bs[j]?=some c):bs.take (j+1)=bs.take j++[c]:=by rw[List.take_add_one,h];rfl
structure I7 (w wr:World) (blk off n:Nat) (vs:List Value) (bs:List Bool) (i j:Nat):Prop where
 ij:i<j
 jn:j≤n
 ext:Al w wr (fun b' t=>b'=blk∧off≤t∧t<off+n * 3)
 kept:i=FF (bs.take j)
 held:∃ xs:List Value,xs.length=n * 3∧(∀ t u,xs[t]?=some u→wr.cell? ⟨blk,off+t,none⟩=some u)∧xs.take (i * 3)=Dl 3 (bs.take j) vs∧xs.drop (j * 3)=vs.drop (j * 3)
theorem I7.grow {w wr wr':World} {blk off n i j:Nat} {vs:List Value} {bs:List Bool} (h:I7 w wr blk off n vs bs i j) (hx:Al wr wr' ZW):I7 w wr' blk off n vs bs i j:=by
 obtain ⟨a,b,c,d,xs,e,f,g,k⟩:=h
 exact ⟨a,b,c.trans hx (fun _ _ h=>h) (fun _ _ _ h=>h.elim),d,xs,e,fun t u hu=>Te hx (by simp[ZW]) (f t u hu),g,k⟩
theorem I7.skip {w wr:World} {blk off n i j:Nat} {vs:List Value} {bs:List Bool} (h:I7 w wr blk off n vs bs i j) (hj:j<n) (hb:bs[j]?=some true):I7 w wr blk off n vs bs i (j+1):=by
 obtain ⟨a,b,c,d,xs,e,f,g,k⟩:=h
 refine ⟨by omega,by omega,c,?_,xs,e,f,?_,?_⟩
 ·rw[HS hb,IU,← d];rfl
 ·rw[HS hb,JB,← g];simp[Dl]
 ·rw[Nat.succ_mul,← drop_drop,k,drop_drop]
theorem I7.keep {w wr:World} {blk off n i j:Nat} {vs:List Value} {bs:List Bool} (h:I7 w wr blk off n vs bs i j) (hj:j<n) (hbl:bs.length=n) (hb:bs[j]?=some false) {u0 u1 u2:Value} (hrow:(vs.drop (j * 3)).take 3=[u0,u1,u2]):I7 w (((wr.setCell ⟨blk,off+i * 3,none⟩ u0).setCell ⟨blk,off+i * 3+1,none⟩ u1).setCell ⟨blk,off+i * 3+2,none⟩ u2) blk off n vs bs (i+1) (j+1):=by
 obtain ⟨a,b,c,d,xs,e,f,g,k⟩:=h
 have hW:((wr.setCell ⟨blk,off+i * 3,none⟩ u0).setCell ⟨blk,off+i * 3+1,none⟩ u1).setCell ⟨blk,off+i * 3+2,none⟩ u2=Di wr blk (off+i * 3) [u0,u1,u2]:=rfl
 rw[hW]
 have hin:∀ t,t<n * 3→(wr.cell? ⟨blk,off+t,none⟩).isSome=true:=fun t h=>by
  rw[f t xs[t] (List.getElem?_eq_getElem (by omega))];rfl
 obtain ⟨row,ty,fr,hh⟩:∃ row ty fr,wr.heap[blk]?=some (.cells row ty fr):=by
  have:=hin 0 (by omega)
  cases hb:wr.heap[blk]? with
  | none=>simp[World.cell?,hb] at this
  | some o =>
    cases o with
    | cells row e fr=>exact ⟨row,e,fr,rfl⟩
    | _=>simp[World.cell?,hb] at this
 have hsz:off+n * 3≤row.size:=by
  have:=hin (n * 3 - 1) (by omega)
  rw[EX hh] at this
  obtain ⟨u,hu⟩:=Option.isSome_iff_exists.1 this
  have:=(Array.getElem?_eq_some_iff.1 hu).1
  omega
 obtain ⟨row1,a1,a2,a3,a4⟩:=CG [u0,u1,u2] wr blk (off+i * 3) row ty fr hh (by simp;omega)
 have x1:=Cq [u0,u1,u2] wr blk (off+i * 3)
 refine ⟨by omega,by omega,c.trans x1 (fun _ _ h=>h) (fun b' t _ h=>⟨h.1,by have:=h.2.1;omega,by have h2:=h.2.2;simp at h2;omega⟩),?_,xs.take (i * 3)++([u0,u1,u2]++xs.drop (i * 3+3)),?_,?_,?_,?_⟩
 ·rw[HS hb,IU,← d];rfl
 ·simp[e];omega
 ·intro t u hu
  rw[EX a1]
  by_cases ht1:t<i * 3
  ·rw[List.getElem?_append_left (by simp;omega),List.getElem?_take_of_lt ht1] at hu
   rw[a4 _ (by omega),← EX hh]
   exact f t u hu
  ·by_cases ht2:t<i * 3+3
   ·rw[List.getElem?_append_right (by simp;omega),List.getElem?_append_left (by simp;omega)] at hu
    have hm:min (i * 3) xs.length=i * 3:=by omega
    simp only[length_take,hm] at hu
    rw[← a3,seg_getElem?] at hu
    rw[if_pos (by simp;omega),show off+i * 3+(t - i * 3)=off+t by omega] at hu
    exact hu
   ·rw[List.getElem?_append_right (by simp;omega),List.getElem?_append_right (by simp;omega),List.getElem?_drop] at hu
    have hm:min (i * 3) xs.length=i * 3:=by omega
    simp only[length_take,hm,length_cons,List.length_nil] at hu
    rw[a4 _ (by simp;omega),← EX hh]
    refine f t u ?_
    rw[← hu];congr 1;omega
 ·rw[HS hb,JB,← g,Nat.succ_mul,← append_assoc,take_left' (by simp;omega)]
  have hbl2:(bs.take j).length=j:=by simp;omega
  show _=_++((vs.drop _).take 3++[])
  rw[hbl2,hrow,append_nil]
 ·have:(xs.take (i * 3)++([u0,u1,u2]++xs.drop (i * 3+3))).drop ((j+1) * 3)=xs.drop ((j+1) * 3):=by
   apply List.ext_getElem?
   intro t
   rw[List.getElem?_drop,List.getElem?_drop,List.getElem?_append_right (by simp;omega),List.getElem?_append_right (by simp;omega),List.getElem?_drop]
   have hm:min (i * 3) xs.length=i * 3:=by omega
   simp only[length_take,hm,length_cons,List.length_nil]
   congr 1;omega
  rw[this,Nat.succ_mul,← drop_drop,k,drop_drop]
end Go.Proofs.Ytdobhipbgpiceaa.DS
end
noncomputable section
namespace Go.Proofs.Ytdobhipbgpiceaa.D
open Go Go.Desk
def AM (f:Func):Code:=match f.body with
 | some c=>c
 | none => .skip
def VA:List (Nat × TD):=[
 (2,⟨false,1,8,[.leaf],[.int .i64 0],.int .i64⟩),
 (3,⟨false,1,8,[.leaf],[.int .i64 0],.int .i64⟩),
 (4,⟨false,1,1,[.leaf],[.bool false],.bool⟩),
 (24,⟨false,1,24,[.sl .own [.leaf]],[.lst 0 []],.slc 29⟩),
 (29,⟨false,1,4,[.leaf],[.flt .f32 0],.flt .f32⟩),
 (34,⟨false,1,8,[.leaf],[.flt .f64 0],.flt .f64⟩),
 (35,⟨false,1,24,[.sl .own [.leaf,.leaf,.sl .own [.leaf]]],[.lst 0 []],.slc 54⟩),
 (54,⟨true,3,40,[.leaf,.leaf,.sl .own [.leaf]],[.int .i64 0,.int .i64 0,.lst 0 []],.st [(0,2),(1,2),(2,24)]⟩),
 (83,⟨false,1,24,[.sl .own [.leaf,.leaf,.sl .own [.leaf]]],[.lst 0 []],.slc 91⟩),
 (84,⟨false,1,24,[.sl .own [.sl .own [.leaf,.leaf,.sl .own [.leaf]],.leaf,.leaf,.leaf,.leaf]],[.lst 0 []],.slc 161⟩),
 (86,⟨true,2,48,[.sl .own [.leaf,.leaf,.sl .own [.leaf]],.sl .own [.sl .own [.leaf,.leaf,.sl .own [.leaf]],.leaf,.leaf,.leaf,.leaf]],[.lst 0 [],.lst 0 []],.st [(0,83),(1,84)]⟩),
 (91,⟨true,3,40,[.leaf,.leaf,.sl .own [.leaf]],[.int .i64 0,.int .i64 0,.lst 0 []],.st [(0,2),(1,2),(2,24)]⟩),
 (94,⟨false,1,24,[.sl .own [.leaf,.leaf,.sl .own [.leaf]]],[.lst 0 []],.slc 191⟩),
 (95,⟨false,1,24,[.sl .own [.sl .own [.leaf,.leaf,.sl .own [.leaf]],.leaf,.leaf,.leaf,.leaf]],[.lst 0 []],.slc 195⟩),
 (97,⟨true,2,48,[.sl .own [.leaf,.leaf,.sl .own [.leaf]],.sl .own [.sl .own [.leaf,.leaf,.sl .own [.leaf]],.leaf,.leaf,.leaf,.leaf]],[.lst 0 [],.lst 0 []],.st [(0,94),(1,95)]⟩),
 (146,⟨false,1,8,[.leaf],[.nil],.ptr 86⟩),
 (149,⟨false,1,8,[.leaf],[.nil],.ptr 91⟩),
 (161,⟨true,5,40,[.sl .own [.leaf,.leaf,.sl .own [.leaf]],.leaf,.leaf,.leaf,.leaf],[.lst 0 [],.int .i64 0,.flt .f32 0,.bool false,.bool false],.st [(0,35),(1,2),(2,29),(3,4),(4,4)]⟩),
 (185,⟨true,5,40,[.sl .own [.leaf],.leaf,.leaf,.leaf,.leaf],[.lst 0 [],.int .i64 0,.flt .f32 0,.bool false,.bool false],.st [(0,24),(1,2),(2,29),(3,4),(4,4)]⟩),
 (187,⟨false,1,8,[.leaf],[.nil],.ptr 161⟩),
 (189,⟨false,1,24,[.sl .own [.sl .own [.leaf],.leaf,.leaf,.leaf,.leaf]],[.lst 0 []],.slc 185⟩),
 (191,⟨true,3,40,[.leaf,.leaf,.sl .own [.leaf]],[.int .i64 0,.int .i64 0,.lst 0 []],.st [(0,2),(1,2),(2,24)]⟩),
 (193,⟨false,1,24,[.sl .own [.leaf,.leaf,.sl .own [.leaf]]],[.lst 0 []],.slc 235⟩),
 (195,⟨true,5,40,[.sl .own [.leaf,.leaf,.sl .own [.leaf]],.leaf,.leaf,.leaf,.leaf],[.lst 0 [],.int .i64 0,.flt .f32 0,.bool false,.bool false],.st [(0,193),(1,2),(2,29),(3,4),(4,4)]⟩),
 (224,⟨false,1,8,[.leaf],[.nil],.ptr 54⟩),
 (235,⟨true,3,40,[.leaf,.leaf,.sl .own [.leaf]],[.int .i64 0,.int .i64 0,.lst 0 []],.st [(0,2),(1,2),(2,24)]⟩)]
def c10:Code:=AM Try.f10
def c23:Code:=AM Try.f23
def Y6:Code:=AM Try.f55
def ZQ:Code:=AM Try.f56
def ZH:Code:=AM Try.f57
def ZG:Code:=AM Try.f58
def Ym:Code:=AM Try.f59
def Yz:Code:=AM Try.f60
def Y1:Code:=AM Try.f61
def ZM:Code:=AM Try.f66
def Yf:Code:=AM Try.f67
def Yx:Code:=AM Try.f76
def W4:Code:=AM Try.f78
def ZF:Code:=AM Try.f81
def Yc:Code:=AM Try.f83
def Y2:Code:=AM Try.f84
def Y4:Code:=AM Try.f87
def ZC:Code:=AM Try.f89
def QA:Code:=AM Try.f101
def P4:Code:=AM Try.f103
def VF:Code:=AM Try.f104
def Pr:Code:=AM Try.f105
def Vu:Code:=AM Try.f106
def QL:Code:=AM Try.f107
def VK:Code:=AM Try.f108
def TM:Code:=AM Try.f109
def Sg:Code:=AM Try.f110
def Sr:Code:=AM Try.f111
def TY:Code:=AM Try.f112
def SW:Code:=AM Try.f113
def Sv:Code:=AM Try.f114
def S6:Code:=AM Try.f115
def SN:Code:=AM Try.f116
def SV:Code:=AM Try.f117
def Sy:Code:=AM Try.f118
def V0:Code:=AM Try.f119
def V5:Code:=AM Try.f133
def Vj:Code:=AM Try.f136
def V3:Code:=AM Try.f137
def Wb:Code:=AM Try.f143
def WF:Code:=AM Try.f144
def WU:Code:=AM Try.f145
def S4:Code:=AM Try.f146
def Sx:Code:=AM Try.f147
def WS:Code:=AM Try.f148
def TK:Code:=AM Try.f149
def VZ:Code:=AM Try.f150
def WA:Code:=AM Try.f151
def Vc:Code:=AM Try.f152
def WE:Code:=AM Try.f153
def WG:Code:=AM Try.f154
def VT:Code:=AM Try.f155
def SZ:Code:=AM Try.f156
def Tc:Code:=AM Try.f157
def S1:Code:=AM Try.f158
def Tv:Code:=AM Try.f159
def WB:Code:=AM Try.f174
def WN:Code:=AM Try.f177
def VV:Code:=AM Try.f178
def VN:Code:=AM Try.f179
def SU:Code:=AM Try.f180
def Tk:Code:=AM Try.f181
def Sm:Code:=AM Try.f182
def SF:Code:=AM Try.f183
def Tl:Code:=AM Try.f184
def WR:Code:=AM Try.f185
def Vl:Code:=AM Try.f194
def WD:Code:=AM Try.f195
def VU:Code:=AM Try.f196
def Vk:Code:=AM Try.f197
def WJ:Code:=AM Try.f205
def OK:List (Nat × FD):=[
 (10,.code c10 [.val,.val,.val] [] [(6,none)] [(0,[0,1,2]),(1,[1,2,3]),(2,[1,2,3,7]),(3,[1,2,3,7]),(4,[]),(5,[1,2,3]),(6,[1,2,3,8,9]),(7,[1,2,3,8,9,10]),(8,[1,2,3,8,9,10,11,12]),(9,[]),(10,[1,2,3,8,9,10,11,12]),(11,[]),(12,[1,2,3,8,9,10,11,12]),(13,[1,2,3,8,9,10,11,12,13]),(14,[1,2,3,8,9,11,12,13]),(15,[]),(16,[1,2,3,8,9,11]),(17,[1,2,3,8,9,11,14]),(18,[1,2,3,8,9,11,14]),(19,[1,2,3,8,9,11,14,15]),(20,[1,2,3,8,9,11,14,15]),(21,[]),(22,[1,2,3,8,9,11,14,15]),(23,[]),(24,[1,2,3,8,9,11,14]),(25,[8,9,11,14,16,17]),(26,[]),(27,[11,14]),(28,[11,14,15]),(29,[14,15]),(30,[]),(31,[14,15]),(32,[]),(33,[])]),
 (23,.code c23 [.val] [] [(2,none)] [(0,[0]),(1,[0]),(2,[]),(3,[0]),(4,[0,8,9,10]),(5,[0,8,9,10]),(6,[0,4,8,9,10]),(7,[]),(8,[0,8,9,10]),(9,[]),(1000004,[2])]),
 (55,.code Y6 [.val,.val] [] [(4,none)] [(0,[0,1]),(1,[1,2]),(2,[1,2]),(3,[]),(4,[1,2]),(5,[1]),(6,[]),(7,[1])]),
 (56,.code ZQ [.val] [] [(2,some (true,2))] [(0,[0]),(1,[1,2]),(2,[1,2,3]),(3,[1,2,3]),(4,[2,3])]),
 (57,.code ZH [.val,.val] [] [(4,none)] [(0,[0,1]),(1,[2,3]),(2,[]),(3,[2,3]),(4,[]),(5,[])]),
 (58,.code ZG [.io,.val] [2] [(4,none)] [(0,[0,1]),(1,[1,2]),(2,[1,2]),(3,[1,2])]),
 (59,.code Ym [.val,.val] [] [(4,none)] [(0,[0,1]),(1,[1,2]),(2,[1,2]),(3,[]),(4,[1,2]),(5,[1]),(6,[]),(7,[1])]),
 (60,.code Yz [.val,.val,.val] [] [(6,some (true,2)),(7,none)] [(0,[0,1,2]),(1,[1,2,3,6]),(2,[6]),(3,[1,2,3,6]),(4,[1,2,6,8]),(5,[1,2,6,8,9]),(6,[1,2,6,8,9,10]),(7,[1,6,8,10,11]),(8,[1,6,8,10,12]),(9,[6,8]),(10,[6]),(11,[6,8])]),
 (61,.code Y1 [.val,.val,.val] [] [(6,some (true,2)),(7,none)] [(0,[0,1,2]),(1,[1,2,3,6]),(2,[6]),(3,[1,2,3,6]),(4,[1,2,3,6,8]),(5,[1,2,6,8,9]),(6,[1,2,6,8,9]),(7,[6,8])]),
 (66,.code ZM [.val] [] [(2,none)] [(0,[0]),(1,[0])]),
 (67,.code Yf [.val,.val,.val] [] [(6,none)] [(0,[0,1,2]),(1,[0,1,2])]),
 (76,.code Yx [.val] [] [(2,none)] [(0,[0]),(1,[1]),(2,[1,4]),(3,[1,4]),(4,[1]),(5,[1,4]),(6,[1]),(7,[1,4]),(8,[1]),(9,[1,4]),(10,[1]),(11,[1,4]),(12,[1]),(13,[1,4]),(14,[1]),(15,[])]),
 (78,.code W4 [.val] [] [(2,none)] [(0,[0]),(1,[0]),(2,[0,3]),(3,[0,3,6,7,8]),(4,[0,3,6,7,8]),(5,[0,3,5,6,7,8]),(6,[0,3,5,6,7,8]),(7,[0,3,6,7,8]),(8,[3]),(1000003,[3])]),
 (81,.code ZF [.val] [] [(2,none)] [(0,[0]),(1,[0])]),
 (83,.code Yc [.val,.val] [] [(4,none)] [(0,[0,1]),(1,[0,1])]),
 (84,.code Y2 [.val] [] [(2,none)] [(0,[0]),(1,[0])]),
 (87,.code Y4 [.val] [] [(2,none)] [(0,[0]),(1,[0])]),
 (89,.code ZC [.val] [] [(2,none)] [(0,[0]),(1,[0])]),
 (101,.code QA [.val] [] [(2,none)] [(0,[0]),(1,[1]),(2,[]),(3,[1]),(4,[1,20,21,22]),(5,[1,20,21,22]),(6,[1,4,20,21,22]),(7,[]),(8,[1,20,21,22]),(9,[1]),(10,[1,44,45,46]),(11,[1,44,45,46]),(12,[1,6,44,45,46]),(13,[]),(14,[1,44,45,46]),(15,[]),(1000004,[1,2,69]),(1000010,[2])]),
 (103,.code P4 [.val] [] [(2,some (true,2))] [(0,[0]),(1,[1,2]),(2,[1,2,3]),(3,[1,2,3,9,10,11]),(4,[1,2,3,9,10,11]),(5,[1,2,3,5,9,10,11]),(6,[1,2,3,5,9,10,11]),(7,[1,2,3,9,10,11]),(8,[1,2,3]),(9,[1,2,3,27,28,29]),(10,[1,2,3,27,28,29]),(11,[1,2,3,7,27,28,29]),(12,[1,2,3,7,27,28,29]),(13,[1,2,3,27,28,29]),(14,[2,3]),(1000003,[1,2,3,43]),(1000009,[2,3])]),
 (104,.code VF [.io] [1] [(2,some (true,2)),(3,none)] [(0,[0]),(1,[1,2]),(2,[1,2]),(3,[1,2])]),
 (105,.code Pr [.val] [] [(2,none)] [(0,[0]),(1,[0]),(2,[0,3]),(3,[]),(4,[0,3]),(5,[0,3,27,28]),(6,[0,3,27,28]),(7,[0,3,4,27,28]),(8,[0,3,4,5,27,28]),(9,[]),(10,[0,3,27,28]),(11,[0,3]),(12,[0,3,60,61]),(13,[0,3,60,61]),(14,[0,3,6,60,61]),(15,[]),(16,[0,3,60,61]),(17,[]),(1000005,[0,2,3,100]),(1000012,[2])]),
 (106,.code Vu [.val,.val,.val] [] [(6,none)] [(0,[0,1,2]),(1,[0,1,2])]),
 (107,.code QL [.val] [] [(2,some (true,2))] [(0,[0]),(1,[0,2]),(2,[0,2,3]),(3,[0,2,3,14,15]),(4,[0,2,3,14,15]),(5,[0,2,3,4,14,15]),(6,[0,2,3,14,15]),(7,[0,2,3]),(8,[0,2,3,35,36]),(9,[0,2,3,35,36]),(10,[0,2,3,5,35,36]),(11,[0,2,3,6,35,36]),(12,[0,2,3,6,35,36]),(13,[0,2,3,35,36]),(14,[2,3]),(1000003,[0,2,3,56]),(1000008,[2,3])]),
 (108,.code VK [.val] [] [(2,some (true,3))] [(0,[0]),(1,[0,2])]),
 (109,.code TM [.val,.val] [] [(4,none)] [(0,[0,1]),(1,[0,1]),(2,[0,1]),(3,[]),(4,[0,1]),(5,[0,1,5]),(6,[0,1,5]),(7,[0,1,5]),(8,[0,1,5]),(9,[]),(10,[1]),(1000005,[1,4])]),
 (110,.code Sg [.val,.val] [] [(4,none)] [(0,[0,1]),(1,[0,1]),(2,[0,1]),(3,[]),(4,[0,1]),(5,[0,1,5]),(6,[0,1,5]),(7,[0,1,5]),(8,[0,1,5]),(9,[]),(10,[1]),(1000005,[1,4])]),
 (111,.code Sr [.val] [] [(2,none)] [(0,[0]),(1,[0]),(2,[0,3]),(3,[0,3,4]),(4,[0,3,4]),(5,[0,3,4]),(6,[3]),(1000003,[3])]),
 (112,.code TY [.val] [] [(2,none)] [(0,[0]),(1,[0]),(2,[0,3]),(3,[0,3,4]),(4,[0,3,4]),(5,[0,3,4]),(6,[3]),(1000003,[3])]),
 (113,.code SW [.val,.val] [] [(4,none)] [(0,[0,1]),(1,[0,1]),(2,[]),(3,[0,1]),(4,[0,1,5]),(5,[0,1,5]),(6,[0,1,5]),(7,[]),(8,[]),(1000004,[4])]),
 (114,.code Sv [.val,.val] [] [(4,none)] [(0,[0,1]),(1,[0,1]),(2,[]),(3,[0,1]),(4,[0,1,5]),(5,[0,1,5]),(6,[0,1,5]),(7,[]),(8,[]),(1000004,[4])]),
 (115,.code S6 [.io,.val] [0] [(4,none)] [(0,[0,1]),(1,[0,1]),(2,[0,1,5]),(3,[0,1,5]),(4,[0,1,5]),(5,[0,1,5]),(6,[0,1,5]),(7,[0,1,5]),(8,[0,1,5]),(9,[0,1]),(1000002,[0,1])]),
 (116,.code SN [.io,.val] [0] [(4,none)] [(0,[0,1]),(1,[0,1]),(2,[0,1,5]),(3,[0,1,5]),(4,[0,1,5]),(5,[0,1,5]),(6,[0,1,5]),(7,[0,1,5]),(8,[0,1,5]),(9,[0,1,5]),(10,[0,1,5]),(11,[0,1,5]),(12,[0,1,5]),(13,[0,1]),(1000002,[0,1])]),
 (117,.code SV [.val,.val] [] [(4,none)] [(0,[0,1]),(1,[0,1]),(2,[0,1,5]),(3,[0,1,5]),(4,[0,1,5]),(5,[]),(6,[0,1,5]),(7,[0,1,5]),(8,[]),(9,[0,1,5]),(10,[0,1,5]),(11,[0,1,5]),(12,[]),(13,[1]),(1000002,[1,4])]),
 (118,.code Sy [.val,.val] [] [(4,none)] [(0,[0,1]),(1,[0,1]),(2,[0,1,5]),(3,[0,1,5]),(4,[0,1,5]),(5,[0,1,5]),(6,[]),(7,[0,1,5]),(8,[]),(9,[0,1,5]),(10,[0,1,5]),(11,[]),(12,[0,1,5]),(13,[0,1,5]),(14,[]),(15,[0,1,5]),(16,[0,1,5]),(17,[]),(18,[0,1,5]),(19,[1]),(1000002,[1,4])]),
 (119,.code V0 [.val] [] [(2,none)] [(0,[0]),(1,[0])]),
 (120,.sem [.io,.val,.io] (Nf [.leaf,.leaf,.sl .own [.leaf]])),
 (133,.code V5 [.val,.val] [] [(4,none),(5,none)] [(0,[0,1]),(1,[0,1]),(2,[0,1,6]),(3,[0,1,6]),(4,[]),(5,[0,1,6]),(6,[]),(7,[0,1,6]),(8,[1]),(9,[0,1,6]),(10,[]),(11,[0,1,6]),(12,[]),(13,[0,1,6]),(14,[1]),(15,[])]),
 (136,.code Vj [.val,.val,.val,.val] [] [(8,none)] [(0,[0,1,2,3]),(1,[1,2,3,4])]),
 (137,.code V3 [.val] [] [(2,none)] [(0,[0]),(1,[0])]),
 (143,.code Wb [.val] [] [(2,none)] [(0,[0]),(1,[0])]),
 (144,.code WF [.val] [] [(2,none)] [(0,[0]),(1,[0])]),
 (145,.code WU [.val,.io] [1] [(4,some (true,5))] [(0,[0,1]),(1,[0,1,4])]),
 (146,.code S4 [.val] [] [(2,none)] [(0,[0]),(1,[0]),(2,[0,3]),(3,[0,3]),(4,[0,3]),(5,[]),(6,[0]),(1000002,[0,2])]),
 (147,.code Sx [.val] [] [(2,none)] [(0,[0]),(1,[0]),(2,[0,5,6]),(3,[0,5,6]),(4,[0,3,5,6]),(5,[]),(6,[0,5,6]),(7,[0]),(1000002,[0,2])]),
 (148,.code WS [.val] [] [(2,none)] [(0,[0]),(1,[0])]),
 (149,.code TK [.val] [] [(2,none)] [(0,[0]),(1,[0]),(2,[0,3]),(3,[0,3,8,9]),(4,[0,3,8,9]),(5,[0,3,4,8,9]),(6,[0,3,5,8,9]),(7,[0,3,5,8,9]),(8,[0,3,8,9]),(9,[3]),(1000003,[3])]),
 (150,.code VZ [.val,.val] [] [(4,none)] [(0,[0,1]),(1,[1,2]),(2,[1]),(3,[]),(4,[1])]),
 (151,.code WA [.val,.val] [] [(4,none)] [(0,[0,1]),(1,[1,2]),(2,[1]),(3,[]),(4,[1])]),
 (152,.code Vc [.val] [] [(2,some (true,3))] [(0,[0]),(1,[1,2]),(2,[1,2,3]),(3,[1,2,3]),(4,[1,2,3]),(5,[2,3])]),
 (153,.code WE [.val] [] [(2,some (true,5))] [(0,[0]),(1,[1,2]),(2,[1,2,3]),(3,[1,2,3]),(4,[1,2,3]),(5,[1,2,3]),(6,[1,2,3]),(7,[2,3])]),
 (154,.code WG [.val,.val] [] [(4,none)] [(0,[0,1]),(1,[2,3]),(2,[]),(3,[2,3]),(4,[]),(5,[2,3]),(6,[]),(7,[])]),
 (155,.code VT [.val,.val] [] [(4,none)] [(0,[0,1]),(1,[2,3]),(2,[]),(3,[2,3]),(4,[]),(5,[2,3]),(6,[]),(7,[2,3]),(8,[]),(9,[2,3]),(10,[]),(11,[])]),
 (156,.code SZ [.io,.val] [0] [(4,none)] [(0,[0,1]),(1,[0,1]),(2,[0,1,5]),(3,[0,1,5]),(4,[0,1,5]),(5,[0,1,5]),(6,[0,1]),(1000002,[0,1])]),
 (157,.code Tc [.io,.val] [0] [(4,none)] [(0,[0,1]),(1,[0,1]),(2,[0,1,5]),(3,[0,1,5]),(4,[0,1,5]),(5,[0,1,5]),(6,[0,1,5]),(7,[0,1,5]),(8,[0,1,5]),(9,[0,1]),(1000002,[0,1])]),
 (158,.code S1 [.val,.val] [] [(4,none)] [(0,[0,1]),(1,[0,1]),(2,[0,1,5]),(3,[0,1,5]),(4,[0,1,5]),(5,[]),(6,[0,1,5]),(7,[1]),(1000002,[1,4])]),
 (159,.code Tv [.val,.val] [] [(4,none)] [(0,[0,1]),(1,[0,1]),(2,[0,1,5]),(3,[0,1,5]),(4,[0,1,5]),(5,[]),(6,[0,1,5]),(7,[0,1,5]),(8,[]),(9,[0,1,5]),(10,[0,1,5]),(11,[0,1,5]),(12,[]),(13,[1]),(1000002,[1,4])]),
 (174,.code WB [.val] [] [(2,none)] [(0,[0]),(1,[0])]),
 (177,.code WN [.val] [] [(2,none)] [(0,[0]),(1,[0]),(2,[0,3]),(3,[0,3,4]),(4,[0]),(5,[0,3]),(6,[0,3,4]),(7,[0,3]),(8,[0,3,4]),(9,[]),(10,[0]),(11,[0,5])]),
 (178,.code VV [.val] [] [(2,none)] [(0,[0]),(1,[0])]),
 (179,.code VN [.val,.val] [] [(4,none)] [(0,[0,1]),(1,[0,1]),(2,[1]),(3,[]),(4,[1])]),
 (180,.code SU [.val,.val] [] [(4,none)] [(0,[0,1]),(1,[0,1]),(2,[0,1]),(3,[]),(4,[0,1]),(5,[0,1,5]),(6,[0,1,5]),(7,[0,1,5]),(8,[0,1,5]),(9,[]),(10,[1]),(1000005,[1,4])]),
 (181,.code Tk [.val] [] [(2,none)] [(0,[0]),(1,[0]),(2,[0,3]),(3,[0,3,4]),(4,[0,3,4]),(5,[0,3,4]),(6,[3]),(1000003,[3])]),
 (182,.code Sm [.val] [] [(2,none)] [(0,[0]),(1,[0]),(2,[0,3]),(3,[0,3,4]),(4,[0,3,4]),(5,[0,3,4]),(6,[3]),(1000003,[3])]),
 (183,.code SF [.val,.val] [] [(4,none)] [(0,[0,1]),(1,[0,1]),(2,[]),(3,[0,1]),(4,[0,1,5]),(5,[0,1,5]),(6,[0,1,5]),(7,[]),(8,[]),(1000004,[4])]),
 (184,.code Tl [.val,.val] [] [(4,none)] [(0,[0,1]),(1,[0,1]),(2,[]),(3,[0,1]),(4,[0,1,5]),(5,[0,1,5]),(6,[0,1,5]),(7,[]),(8,[]),(1000004,[4])]),
 (185,.code WR [.val,.val] [] [(4,none)] [(0,[0,1]),(1,[0,1]),(2,[0,1]),(3,[0,1]),(4,[0,1]),(5,[0,1])]),
 (194,.code Vl [.val] [] [(2,none)] [(0,[0]),(1,[0])]),
 (195,.code WD [.val,.val] [] [(4,none)] [(0,[0,1]),(1,[1,2]),(2,[1]),(3,[]),(4,[1])]),
 (196,.code VU [.val] [] [(2,some (true,3))] [(0,[0]),(1,[1,2]),(2,[1,2,3]),(3,[1,2,3]),(4,[1,2,3]),(5,[2,3])]),
 (197,.code Vk [.val,.val] [] [(4,none)] [(0,[0,1]),(1,[2,3]),(2,[]),(3,[2,3]),(4,[]),(5,[2,3]),(6,[]),(7,[])]),
 (205,.code WJ [.val] [] [(2,none)] [(0,[0]),(1,[0])])]
def E:Aj:=⟨fun t=>M0 VA t,Lh OK⟩
def KN (n:Nat):FD:=match Lh OK n with
 | some d=>d
 | none => .ext fun _=>none
def Gw (n:Nat):List (Nat × List Nat):=match Lh OK n with
 | some d=>d.keep
 | none=>[]
theorem tysOk:Cv Try.prog E:=Sf (l:=VA) (fun _=>rfl) (by kernel_rfl)
abbrev FT (f:Nat):Prop:=Hw Try.prog E f (KN f)
theorem Cg {f : Nat} {fn : Func} (c : Code) (hf : Try.prog.funcs[f]? = some fn) (hn : (fn.name == "runtime.NumGoroutine") = false := by kernel_rfl) (hb : fn.body = some c := by kernel_rfl) (h : Qd E fn c (KN f).ms (KN f).os (KN f).rs = true := by kernel_rfl) (hd : KN f = .code c (KN f).ms (KN f).os (KN f).rs (KN f).keep := by kernel_rfl) : FT f := by unfold FT; rw [hd]; exact Pt hf hn hb h
theorem Yv:FT 10:=Cg c10 Try.func10
theorem Y9:FT 23:=Cg c23 Try.func23
theorem Yr:FT 55:=Cg Y6 Try.func55
theorem ZE:FT 56:=Cg ZQ Try.func56
theorem Yw:FT 57:=Cg ZH Try.func57
theorem ZO:FT 58:=Cg ZG Try.func58
theorem Yb:FT 59:=Cg Ym Try.func59
theorem Ys:FT 60:=Cg Yz Try.func60
theorem Y0:FT 61:=Cg Y1 Try.func61
theorem ZP:FT 66:=Cg ZM Try.func66
theorem Y8:FT 67:=Cg Yf Try.func67
theorem Yg:FT 76:=Cg Yx Try.func76
theorem Ye:FT 78:=Cg W4 Try.func78
theorem ZB:FT 81:=Cg ZF Try.func81
theorem Yp:FT 83:=Cg Yc Try.func83
theorem Yt:FT 84:=Cg Y2 Try.func84
theorem Yh:FT 87:=Cg Y4 Try.func87
theorem ZK:FT 89:=Cg ZC Try.func89
theorem XW:FT 101:=Cg QA Try.func101
theorem X4:FT 103:=Cg P4 Try.func103
theorem W7:FT 104:=Cg VF Try.func104
theorem XO:FT 105:=Cg Pr Try.func105
theorem Xh:FT 106:=Cg Vu Try.func106
theorem W8:FT 107:=Cg QL Try.func107
theorem Xe:FT 108:=Cg VK Try.func108
theorem Xt:FT 109:=Cg TM Try.func109
theorem W9:FT 110:=Cg Sg Try.func110
theorem Xk:FT 111:=Cg Sr Try.func111
theorem Xo:FT 112:=Cg TY Try.func112
theorem W0:FT 113:=Cg SW Try.func113
theorem Wr:FT 114:=Cg Sv Try.func114
theorem X8:FT 115:=Cg S6 Try.func115
theorem Xr:FT 116:=Cg SN Try.func116
theorem YL:FT 117:=Cg SV Try.func117
theorem XT:FT 118:=Cg Sy Try.func118
theorem X2:FT 119:=Cg V0 Try.func119
theorem YR:Hw Try.prog E 120 (.sem [.io,.val,.io] (Nf [.leaf,.leaf,.sl .own [.leaf]])):=DS.ok120
theorem XB:FT 133:=Cg V5 Try.func133
theorem Xj:FT 136:=Cg Vj Try.func136
theorem Wm:FT 137:=Cg V3 Try.func137
theorem XY:FT 143:=Cg Wb Try.func143
theorem XU:FT 144:=Cg WF Try.func144
theorem YP:FT 145:=Cg WU Try.func145
theorem Xb:FT 146:=Cg S4 Try.func146
theorem XN:FT 147:=Cg Sx Try.func147
theorem Wp:FT 148:=Cg WS Try.func148
theorem Wi:FT 149:=Cg TK Try.func149
theorem Xm:FT 150:=Cg VZ Try.func150
theorem Wt:FT 151:=Cg WA Try.func151
theorem Xf:FT 152:=Cg Vc Try.func152
theorem YH:FT 153:=Cg WE Try.func153
theorem Xc:FT 154:=Cg WG Try.func154
theorem XV:FT 155:=Cg VT Try.func155
theorem YF:FT 156:=Cg SZ Try.func156
theorem YS:FT 157:=Cg Tc Try.func157
theorem YA:FT 158:=Cg S1 Try.func158
theorem XS:FT 159:=Cg Tv Try.func159
theorem YO:FT 174:=Cg WB Try.func174
theorem YB:FT 177:=Cg WN Try.func177
theorem XL:FT 178:=Cg VV Try.func178
theorem XA:FT 179:=Cg VN Try.func179
theorem X0:FT 180:=Cg SU Try.func180
theorem Xi:FT 181:=Cg Tk Try.func181
theorem XX:FT 182:=Cg Sm Try.func182
theorem Xv:FT 183:=Cg SF Try.func183
theorem Wz:FT 184:=Cg Tl Try.func184
theorem YM:FT 185:=Cg WR Try.func185
theorem X6:FT 194:=Cg Vl Try.func194
theorem XG:FT 195:=Cg WD Try.func195
theorem XE:FT 196:=Cg VU Try.func196
theorem Wj:FT 197:=Cg Vk Try.func197
theorem Wy:FT 205:=Cg WJ Try.func205
theorem VL:L0 Try.prog E OK:=.cons Yv (.cons Y9 (.cons Yr (.cons ZE (.cons Yw (.cons ZO (.cons Yb (.cons Ys (.cons Y0 (.cons ZP (.cons Y8 (.cons Yg (.cons Ye (.cons ZB (.cons Yp (.cons Yt (.cons Yh (.cons ZK (.cons XW (.cons X4 (.cons W7 (.cons XO (.cons Xh (.cons W8 (.cons Xe (.cons Xt (.cons W9 (.cons Xk (.cons Xo (.cons W0 (.cons Wr (.cons X8 (.cons Xr (.cons YL (.cons XT (.cons X2 (.cons YR (.cons XB (.cons Xj (.cons Wm (.cons XY (.cons XU (.cons YP (.cons Xb (.cons XN (.cons Wp (.cons Wi (.cons Xm (.cons Wt (.cons Xf (.cons YH (.cons Xc (.cons XV (.cons YF (.cons YS (.cons YA (.cons XS (.cons YO (.cons YB (.cons XL (.cons XA (.cons X0 (.cons Xi (.cons XX (.cons Xv (.cons Wz (.cons YM (.cons X6 (.cons XG (.cons XE (.cons Wj (.cons Wy (.nil))))))))))))))))))))))))))))))))))))))))))))))))))))))))))))))))))))))))
theorem fnOk:∀ f fd,E.fn f=some fd→Hw Try.prog E f fd:=S9 (l:=OK) (fun _=>rfl) VL
abbrev CT {V X:Type} (no:Nat) (P:List Ae) (S:EY V) (A:Ak X) (F:Nat→V→Option X):Prop:=∀ n v x,F n v=some x→AZ E n no (F7 P (S.pk v))=some (A.enc x)
theorem Ce {V X:Type} {no:Nat} {P:List Ae} {S:EY V} {A:Ak X} {F:Nat→V→Option X} (c:Code) (O:Nat→BZ) (bs:List Code:=[]) (ha:∀ n,Mj (O n) E (AZ E n) n (Gw no) bs:=by intro _;exact .nil) (hf:E.fn no=some (.code c (KN no).ms (KN no).os (KN no).rs (Gw no)):=by kernel_rfl) (hO:∀ n,(O n).CfOk (AZ E n):=by intro n;exact PF _ _ n) (hb:Bi c=bs:=by kernel_rfl) (h0:∀ v,F 0 v=none:=by intro _;rfl) (hs:∀ n v,F (n+1) v=YW E (O n) no (F7 P (S.pk v)) A.dec:=by intro _ _;kernel_rfl):CT no P S A F:=Uk O hf hO (fun n=>Qi hb (ha n)) h0 hs
abbrev HY (no:Nat) (c:Code) (i n:Nat) (O:BZ):Prop:=HV O E (AZ E n) n (Gw no) (.loop (An c i))
theorem Ha {V X:Type} {no i:Nat} {c:Code} {O:Nat→BZ} (P:AS) (S:EY V) (A:Fa X) (L:Nat→Nat→V→Option X) (bs:List Code:=[]) (ha:∀ n,Mj (O n) E (AZ E n) n (Gw no) bs:=by intro _;exact .nil) (hO:∀ n,(O n).CfOk (AZ E n):=by intro n;exact PF _ _ n) (hb:Bi (An c i)=bs:=by kernel_rfl) (h0:∀ n v,L n 0 v=none:=by intro _ _;rfl)
  (hs:∀ n m v,L n (m+1) v=E5 E (O n) (Gw no) (An c i) (Rs P (S.pk v)) (fun ex σ'=>match ex with
    | .normal=>bd (MT P (Go.Desk.settle (BQ (Gw no) (Bg (An c i))) σ')) fun ls=>bd (S.up ls) (L n m)
    | .exit id=>A.dec (.exit id) (Go.Desk.settle (BQ (Gw no) (I6 (An c i))) σ')
    | .ret=>A.dec .ret (Go.Desk.settle (BQ (Gw no) (I6 (An c i))) σ')):=by intro _ _ _;kernel_rfl)
  (hW:∀ n (β:Type) (σ:AS) (k:Ex→AS→Option β),(O n).lp (VB (An c i)) σ k=bd (MT P σ) fun ls=>bd (S.up ls) fun v=>bd (L n n v) fun x=>A.out x k:=by intro _ _ _ _;kernel_rfl):∀ n,HY no c i n (O n):=fun n=>UJ P S A (L n) (hO n) (Qi hb (ha n)) (h0 n) (hs n) (hW n)
end Go.Proofs.Ytdobhipbgpiceaa.D
end
noncomputable section
namespace Go.Proofs.Ytdobhipbgpiceaa.D
open Go Go.Desk
abbrev Yj:=Nat × List T × Nat × List T × Nat × List T × Nat × List T × Nat × List T × Nat × List T × Nat × List T × Int × Int
abbrev Y3:=Nat × List T × Nat × List T × Nat × List T × Nat × List T × Nat × List T × Nat × List T × Int × Int
abbrev XQ:=Nat × List T × Nat × List T × Nat × List T × Nat × List T × Nat × List T × Nat × List T
abbrev ZX:=Nat × List T × Int × Nat × Bool × Bool × Nat × List T × Int × Nat × Bool × Bool
abbrev Xd:=Nat × List T × Nat × List T × Bool × Nat × List T × Nat × List T
abbrev Wf:=Nat × List T × Nat × List T × Nat × List T × Nat × List T
abbrev Ya:=Nat × List T × Nat × List T × Nat × List T × Int × Int
abbrev YX:=Nat × List T × Int × Nat × Bool × Bool × Nat × List T
abbrev ZI:=Int × Int × Nat × List T × Int × Int × Nat × List T
abbrev ZA:=Nat × List T × Nat × List T × Int × Int × Int
abbrev XF:=Nat × List T × Int × Nat × Bool × Bool × Int
abbrev Wq:=Int × Int × Nat × List T × Int × Int × Int
abbrev RK:=Nat × List T × Nat × List T × Int × Int
abbrev T0:=Nat × List T × Int × Nat × Bool × Bool
abbrev SR:=Nat × List T × Nat × List T × Bool
abbrev Ii:=Nat × List T × Nat × List T × Int
abbrev Vy:=Int × Nat × List T × Nat × List T
abbrev WL:=Int × Int × Nat × List T × Int
abbrev GR:=Nat × List T × Nat × List T
abbrev JG:=Nat × List T × Int × Int
abbrev KK:=Int × Int × Nat × List T
abbrev Ze:Go.Desk.V:=⟨true,[.sl .shr [.leaf,.leaf,.sl .shr [.leaf]],.sl .shr [.sl .shr [.leaf,.leaf,.sl .shr [.leaf]],.leaf,.leaf,.leaf,.leaf]],[.lst 0 [],.lst 0 []]⟩
abbrev TL:Go.Desk.V:=⟨true,[.sl .own [.leaf,.leaf,.sl .own [.leaf]],.sl .own [.sl .own [.leaf,.leaf,.sl .own [.leaf]],.leaf,.leaf,.leaf,.leaf]],[.lst 0 [],.lst 0 []]⟩
abbrev Za:Go.Desk.V:=⟨true,[.sl .shr [.leaf,.leaf,.sl .shr [.leaf]],.leaf,.leaf,.leaf,.leaf],[.lst 0 [],.int .i64 0,.flt .f32 0,.bool false,.bool false]⟩
abbrev ZZ:Go.Desk.V:=⟨false,[.sl .shr [.sl .shr [.leaf,.leaf,.sl .shr [.leaf]],.leaf,.leaf,.leaf,.leaf]],[.lst 0 []]⟩
abbrev Y5:Go.Desk.V:=⟨false,[.sl .own [.sl .own [.leaf,.leaf,.sl .own [.leaf]],.leaf,.leaf,.leaf,.leaf]],[.lst 0 []]⟩
abbrev Zf:Go.Desk.V:=⟨true,[.leaf,.leaf,.sl .shr [.leaf]],[.int .i64 0,.int .i64 0,.lst 0 []]⟩
abbrev Yq:Go.Desk.V:=⟨true,[.leaf,.leaf,.sl .own [.leaf]],[.int .i64 0,.int .i64 0,.lst 0 []]⟩
abbrev Zb:Go.Desk.V:=⟨false,[.sl .shr [.leaf,.leaf,.sl .shr [.leaf]]],[.lst 0 []]⟩
abbrev U0:Go.Desk.V:=⟨false,[.sl .own [.leaf,.leaf,.sl .own [.leaf]]],[.lst 0 []]⟩
abbrev Zd:Go.Desk.V:=⟨false,[.sl .shr [.leaf]],[.lst 0 []]⟩
abbrev RF:Go.Desk.V:=⟨false,[.sl .own [.leaf]],[.lst 0 []]⟩
abbrev FA:Go.Desk.V:=⟨false,[.leaf],[.int .i64 0]⟩
abbrev CR:Go.Desk.V:=⟨false,[.leaf],[.bool false]⟩
abbrev ZN:Go.Desk.V:=⟨false,[.leaf],[.flt .f32 0]⟩
abbrev Bs:Ae:=⟨.val,FA⟩
abbrev RE:Ae:=⟨.val,ZN⟩
abbrev M8:Ae:=⟨.val,Zd⟩
abbrev MB:Ae:=⟨.val,Zf⟩
abbrev Io:Ae:=⟨.val,Zb⟩
abbrev T4:Ae:=⟨.val,Za⟩
abbrev SP:Ae:=⟨.val,ZZ⟩
abbrev MD:Ae:=⟨.val,Ze⟩
abbrev Rh:AA:=.val false [.rf .shr [.sl .shr [.leaf,.leaf,.sl .shr [.leaf]],.sl .shr [.sl .shr [.leaf,.leaf,.sl .shr [.leaf]],.leaf,.leaf,.leaf,.leaf]]] [.ref [.lst 0 [],.lst 0 []]] [] 0
abbrev HW:AA:=.box [.sl .own [.leaf,.leaf,.sl .own [.leaf]],.sl .own [.sl .own [.leaf,.leaf,.sl .own [.leaf]],.leaf,.leaf,.leaf,.leaf]] [.lst 0 [],.lst 0 []] [] 0
abbrev RX:AA:=.box [.sl .shr [.leaf,.leaf,.sl .shr [.leaf]],.sl .shr [.sl .shr [.leaf,.leaf,.sl .shr [.leaf]],.leaf,.leaf,.leaf,.leaf]] [.lst 0 [],.lst 0 []] [] 0
abbrev P6:AA:=.val false [.sl .shr [.sl .shr [.leaf,.leaf,.sl .shr [.leaf]],.leaf,.leaf,.leaf,.leaf]] [.lst 0 []] [] 0
abbrev GQ:AA:=.val false [.sl .shr [.leaf,.leaf,.sl .shr [.leaf]]] [.lst 0 []] [] 0
abbrev Pf:AA:=.val false [.sl .own [.leaf,.leaf,.sl .own [.leaf]]] [.lst 0 []] [] 0
abbrev Uc:AA:=.val false [.sl .own [.leaf,.leaf,.sl .own [.leaf]]] [.lst 0 []] [] 1
abbrev UM:AA:=.val false [.sl .shr [.leaf]] [.lst 0 []] [] 0
abbrev Ar:AA:=.val false [.leaf] [.int .i64 0] [] 0
abbrev Ke:AA:=.val false [.leaf] [.bool false] [] 0
set_option linter.unusedVariables false
def x120.w:BX E:=ET.w 3 [.leaf,.leaf,.sl .own [.leaf]] (by decide) (by decide) (by decide) (by decide) 120 (by kernel_rfl)
def f179:Nat→Nat→List T→Int→Option (Int)
 | 0,_,_,_=>none
 | n+1,n1,l2,i3 =>
   let i4:=(IntKind.i64.wrap (i3 - (n1:Int)))
   br (decide (i4<(0:Int))) (
    some (-1:Int)) (
    some i4)
def Ba:EY (Nat × List T × Int) where
 pk:=fun (a0,a1,a2)=>[.lst a0 a1,.int a2]
 up:=fun ls=>match ls with
  | [.lst a0 a1,.int a2]=>some (a0,a1,a2)
  | _=>none
def CQ:EY (Int) where
 pk:=fun v=>[.int v]
 up:=fun ls=>match ls with
  | [.int a0]=>some a0
  | _=>none
def f179.P:List Ae:=[M8,Bs]
def f179.A:Ak (Int):=.one ⟨[FA],[none,none]⟩ CQ
def f179.F (n:Nat) (v:Nat × List T × Int):=f179 n v.1 v.2.1 v.2.2
def f179.O (n:Nat):BZ:=AU (E:=E) [] [] n
theorem f179.ok:CT 179 f179.P Ba f179.A f179.F:=Ce VN f179.O
def f179.w:BX E:=Bm 179 f179.P Ba f179.A f179.F f179.ok
def f150:Nat→Int→Int→Nat→List T→Int→Option (Int)
 | 0,_,_,_,_,_=>none
 | n+1,i1,i2,n3,l4,i5 =>
   bd (f179 n n3 l4 i5) fun r6 =>
   let i7:=r6
   br (decide (i7<(0:Int))) (
    some (-1:Int)) (
    some i7)
def KR:EY (WL) where
 pk:=fun (a0,a1,a2,a3,a4)=>[.int a0,.int a1,.lst a2 a3,.int a4]
 up:=fun ls=>match ls with
  | [.int a0,.int a1,.lst a2 a3,.int a4]=>some (a0,a1,a2,a3,a4)
  | _=>none
def f150.P:List Ae:=[MB,Bs]
def f150.A:Ak (Int):=.one ⟨[FA],[none,none]⟩ CQ
def f150.F (n:Nat) (v:WL):=let (a,b,c,d,e):=v;f150 n a b c d e
def f150.O (n:Nat):BZ:=AU (E:=E) [f179.w] [] n
theorem f150.ok:CT 150 f150.P KR f150.A f150.F:=Ce VZ f150.O
def f150.w:BX E:=Bm 150 f150.P KR f150.A f150.F f150.ok
def f109.l0 (n:Nat):Nat→Nat→List T→Int→Int→Option ((Int) ⊕ (Int))
 | 0,_,_,_,_=>none
 | m+1,n1,l2,i3,i4 =>
   br (decide (i4<(n1:Int))) (
    gd ((decide ((0≤i4)∧(i4<(n1:Int))))&&(Ag [(.int .i64),(.int .i64),.lst] l2 (((Int.toNat i4) * 3)+0))) (
    bd (f150 n (DA l2 (((Int.toNat i4) * 3)+0)) (DA l2 ((((Int.toNat i4) * 3)+0)+1)) (EF l2 (((((Int.toNat i4) * 3)+0)+1)+1)) (EN l2 (((((Int.toNat i4) * 3)+0)+1)+1)) i3) fun r5 =>
    let i6:=r5
    br (decide (i6<(0:Int))) (
     some (Sum.inl (-1:Int))) (
     f109.l0 n m n1 l2 i6 (IntKind.i64.wrap (i4+(1:Int)))))) (
    some (Sum.inr i3))
def f109:Nat→Nat→List T→Int→Option (Int)
 | 0,_,_,_=>none
 | n+1,n1,l2,i3 =>
   let i4:=(IntKind.i64.wrap (i3 - (n1:Int)))
   br (decide (i4<(0:Int))) (
    some (-1:Int)) (
    bd (f109.l0 n n n1 l2 i4 (0:Int)) fun r5 =>
    sm r5 (fun u6 =>
     let i7:=u6
     some i7) (fun u8 =>
     let i9:=u8
     some i9))
def BT:EY (JG) where
 pk:=fun (a0,a1,a2,a3)=>[.lst a0 a1,.int a2,.int a3]
 up:=fun ls=>match ls with
  | [.lst a0 a1,.int a2,.int a3]=>some (a0,a1,a2,a3)
  | _=>none
def f109.l0.P:AS:=⟨[(0,GQ),(1,Ar),(5,Ar)],0⟩
def f109.l0.A:Fa ((Int) ⊕ (Int)):=.or (.one .ret ⟨[(1,.dead),(4,Ar)],0⟩ CQ) (.one (.exit 0) ⟨[(1,Ar),(4,.dead)],0⟩ CQ)
def f109.l0.F (n m:Nat) (v:JG):=let (a,b,c,d):=v;f109.l0 n m a b c d
def f109.l0.W (n:Nat):Gi:=.of 80 f109.l0.P BT f109.l0.A (f109.l0.F n n)
def f109.P:List Ae:=[Io,Bs]
def f109.A:Ak (Int):=.one ⟨[FA],[none,none]⟩ CQ
def f109.F (n:Nat) (v:Nat × List T × Int):=f109 n v.1 v.2.1 v.2.2
def f109.O (n:Nat):BZ:=AU (E:=E) [f150.w] [f109.l0.W n] n
theorem f109.l0.ok:∀ n,HY 109 TM 0 n (f109.O n):=Ha f109.l0.P BT f109.l0.A f109.l0.F
theorem f109.ok:CT 109 f109.P Ba f109.A f109.F:=Ce TM f109.O [An TM 0] (fun n=>(.cons (f109.l0.ok n) .nil))
def f109.w:BX E:=Bm 109 f109.P Ba f109.A f109.F f109.ok
def f195:Nat→Int→Int→Nat→List T→Int→Option (Int)
 | 0,_,_,_,_,_=>none
 | n+1,i1,i2,n3,l4,i5 =>
   bd (f179 n n3 l4 i5) fun r6 =>
   let i7:=r6
   br (decide (i7<(0:Int))) (
    some (-1:Int)) (
    some i7)
def f195.P:List Ae:=[MB,Bs]
def f195.A:Ak (Int):=.one ⟨[FA],[none,none]⟩ CQ
def f195.F (n:Nat) (v:WL):=let (a,b,c,d,e):=v;f195 n a b c d e
def f195.O (n:Nat):BZ:=AU (E:=E) [f179.w] [] n
theorem f195.ok:CT 195 f195.P KR f195.A f195.F:=Ce WD f195.O
def f195.w:BX E:=Bm 195 f195.P KR f195.A f195.F f195.ok
def f180.l0 (n:Nat):Nat→Nat→List T→Int→Int→Option ((Int) ⊕ (Int))
 | 0,_,_,_,_=>none
 | m+1,n1,l2,i3,i4 =>
   br (decide (i4<(n1:Int))) (
    gd ((decide ((0≤i4)∧(i4<(n1:Int))))&&(Ag [(.int .i64),(.int .i64),.lst] l2 (((Int.toNat i4) * 3)+0))) (
    bd (f195 n (DA l2 (((Int.toNat i4) * 3)+0)) (DA l2 ((((Int.toNat i4) * 3)+0)+1)) (EF l2 (((((Int.toNat i4) * 3)+0)+1)+1)) (EN l2 (((((Int.toNat i4) * 3)+0)+1)+1)) i3) fun r5 =>
    let i6:=r5
    br (decide (i6<(0:Int))) (
     some (Sum.inl (-1:Int))) (
     f180.l0 n m n1 l2 i6 (IntKind.i64.wrap (i4+(1:Int)))))) (
    some (Sum.inr i3))
def f180:Nat→Nat→List T→Int→Option (Int)
 | 0,_,_,_=>none
 | n+1,n1,l2,i3 =>
   let i4:=(IntKind.i64.wrap (i3 - (n1:Int)))
   br (decide (i4<(0:Int))) (
    some (-1:Int)) (
    bd (f180.l0 n n n1 l2 i4 (0:Int)) fun r5 =>
    sm r5 (fun u6 =>
     let i7:=u6
     some i7) (fun u8 =>
     let i9:=u8
     some i9))
def f180.l0.P:AS:=⟨[(0,GQ),(1,Ar),(5,Ar)],0⟩
def f180.l0.A:Fa ((Int) ⊕ (Int)):=.or (.one .ret ⟨[(1,.dead),(4,Ar)],0⟩ CQ) (.one (.exit 0) ⟨[(1,Ar),(4,.dead)],0⟩ CQ)
def f180.l0.F (n m:Nat) (v:JG):=let (a,b,c,d):=v;f180.l0 n m a b c d
def f180.l0.W (n:Nat):Gi:=.of 80 f180.l0.P BT f180.l0.A (f180.l0.F n n)
def f180.P:List Ae:=[Io,Bs]
def f180.A:Ak (Int):=.one ⟨[FA],[none,none]⟩ CQ
def f180.F (n:Nat) (v:Nat × List T × Int):=f180 n v.1 v.2.1 v.2.2
def f180.O (n:Nat):BZ:=AU (E:=E) [f195.w] [f180.l0.W n] n
theorem f180.l0.ok:∀ n,HY 180 SU 0 n (f180.O n):=Ha f180.l0.P BT f180.l0.A f180.l0.F
theorem f180.ok:CT 180 f180.P Ba f180.A f180.F:=Ce SU f180.O [An SU 0] (fun n=>(.cons (f180.l0.ok n) .nil))
def f180.w:BX E:=Bm 180 f180.P Ba f180.A f180.F f180.ok
def f151:Nat→Nat→List T→Int→Nat→Bool→Bool→Int→Option (Int)
 | 0,_,_,_,_,_,_,_=>none
 | n+1,n1,l2,i3,x4,b5,b6,i7 =>
   bd (f180 n n1 l2 i7) fun r8 =>
   let i9:=r8
   br (decide (i9<(0:Int))) (
    some (-1:Int)) (
    some i9)
def MW:EY (XF) where
 pk:=fun (a0,a1,a2,a3,a4,a5,a6)=>[.lst a0 a1,.int a2,.flt a3,.bool a4,.bool a5,.int a6]
 up:=fun ls=>match ls with
  | [.lst a0 a1,.int a2,.flt a3,.bool a4,.bool a5,.int a6]=>some (a0,a1,a2,a3,a4,a5,a6)
  | _=>none
def f151.P:List Ae:=[T4,Bs]
def f151.A:Ak (Int):=.one ⟨[FA],[none,none]⟩ CQ
def f151.F (n:Nat) (v:XF):=let (a,b,c,d,e,f,g):=v;f151 n a b c d e f g
def f151.O (n:Nat):BZ:=AU (E:=E) [f180.w] [] n
theorem f151.ok:CT 151 f151.P MW f151.A f151.F:=Ce WA f151.O
def f151.w:BX E:=Bm 151 f151.P MW f151.A f151.F f151.ok
def f110.l0 (n:Nat):Nat→Nat→List T→Int→Int→Option ((Int) ⊕ (Int))
 | 0,_,_,_,_=>none
 | m+1,n1,l2,i3,i4 =>
   br (decide (i4<(n1:Int))) (
    gd ((decide ((0≤i4)∧(i4<(n1:Int))))&&(Ag [.lst,(.int .i64),(.flt .f32),.bool,.bool] l2 (((Int.toNat i4) * 5)+0))) (
    bd (f151 n (EF l2 (((Int.toNat i4) * 5)+0)) (EN l2 (((Int.toNat i4) * 5)+0)) (DA l2 ((((Int.toNat i4) * 5)+0)+1)) (JU l2 (((((Int.toNat i4) * 5)+0)+1)+1)) (KX l2 ((((((Int.toNat i4) * 5)+0)+1)+1)+1)) (KX l2 (((((((Int.toNat i4) * 5)+0)+1)+1)+1)+1)) i3) fun r5 =>
    let i6:=r5
    br (decide (i6<(0:Int))) (
     some (Sum.inl (-1:Int))) (
     f110.l0 n m n1 l2 i6 (IntKind.i64.wrap (i4+(1:Int)))))) (
    some (Sum.inr i3))
def f110:Nat→Nat→List T→Int→Option (Int)
 | 0,_,_,_=>none
 | n+1,n1,l2,i3 =>
   let i4:=(IntKind.i64.wrap (i3 - (n1:Int)))
   br (decide (i4<(0:Int))) (
    some (-1:Int)) (
    bd (f110.l0 n n n1 l2 i4 (0:Int)) fun r5 =>
    sm r5 (fun u6 =>
     let i7:=u6
     some i7) (fun u8 =>
     let i9:=u8
     some i9))
def f110.l0.P:AS:=⟨[(0,P6),(1,Ar),(5,Ar)],0⟩
def f110.l0.A:Fa ((Int) ⊕ (Int)):=.or (.one .ret ⟨[(1,.dead),(4,Ar)],0⟩ CQ) (.one (.exit 0) ⟨[(1,Ar),(4,.dead)],0⟩ CQ)
def f110.l0.F (n m:Nat) (v:JG):=let (a,b,c,d):=v;f110.l0 n m a b c d
def f110.l0.W (n:Nat):Gi:=.of 80 f110.l0.P BT f110.l0.A (f110.l0.F n n)
def f110.P:List Ae:=[SP,Bs]
def f110.A:Ak (Int):=.one ⟨[FA],[none,none]⟩ CQ
def f110.F (n:Nat) (v:Nat × List T × Int):=f110 n v.1 v.2.1 v.2.2
def f110.O (n:Nat):BZ:=AU (E:=E) [f151.w] [f110.l0.W n] n
theorem f110.l0.ok:∀ n,HY 110 Sg 0 n (f110.O n):=Ha f110.l0.P BT f110.l0.A f110.l0.F
theorem f110.ok:CT 110 f110.P Ba f110.A f110.F:=Ce Sg f110.O [An Sg 0] (fun n=>(.cons (f110.l0.ok n) .nil))
def f110.w:BX E:=Bm 110 f110.P Ba f110.A f110.F f110.ok
def f55:Nat→Nat→List T→Nat→List T→Int→Option (Int)
 | 0,_,_,_,_,_=>none
 | n+1,n1,l2,n3,l4,i5 =>
   bd (f109 n n1 l2 i5) fun r6 =>
   let i7:=r6
   br (decide (i7<(0:Int))) (
    some (-1:Int)) (
    bd (f110 n n3 l4 i7) fun r8 =>
    let i9:=r8
    br (decide (i9<(0:Int))) (
     some (-1:Int)) (
     some i9))
def BV:EY (Ii) where
 pk:=fun (a0,a1,a2,a3,a4)=>[.lst a0 a1,.lst a2 a3,.int a4]
 up:=fun ls=>match ls with
  | [.lst a0 a1,.lst a2 a3,.int a4]=>some (a0,a1,a2,a3,a4)
  | _=>none
def f55.P:List Ae:=[MD,Bs]
def f55.A:Ak (Int):=.one ⟨[FA],[none,none]⟩ CQ
def f55.F (n:Nat) (v:Ii):=let (a,b,c,d,e):=v;f55 n a b c d e
def f55.O (n:Nat):BZ:=AU (E:=E) [f109.w,f110.w] [] n
theorem f55.ok:CT 55 f55.P BV f55.A f55.F:=Ce Y6 f55.O
def f55.w:BX E:=Bm 55 f55.P BV f55.A f55.F f55.ok
def f181.l0 (n:Nat):Nat→Nat→List T→Nat→List T→Int→Option (Nat × List T)
 | 0,_,_,_,_,_=>none
 | m+1,n1,l2,n3,l4,i5 =>
   br (decide (i5<(n1:Int))) (
    gd ((decide ((0≤i5)∧(i5<(n1:Int))))&&(Ag [(.flt .f32)] l2 (Int.toNat i5))) (
    gd (decide ((0≤i5)∧(i5<(n3:Int)))) (
    gd (Nat.ble ((Int.toNat i5)+1) (List.length l4)) (
    let l6:=(AT l4 (Int.toNat i5) [(T.flt .f32 (JU l2 (Int.toNat i5)))])
    f181.l0 n m n1 l2 n3 l6 (IntKind.i64.wrap (i5+(1:Int))))))) (
    some (n3,l4))
def f181:Nat→Nat→List T→Option (Nat × List T)
 | 0,_,_=>none
 | n+1,n1,l2 =>
   gd (decide ((0≤(n1:Int))∧((n1:Int)≤(2147483648:Int)))) (
   let l3:=(reps n1 [(T.flt .f32 0)])
   bd (f181.l0 n n n1 l2 n1 l3 (0:Int)) fun r4 =>
   let n5:=r4.1
   let l6:=r4.2
   some (n5,l6))
def Bo:EY (Nat × List T) where
 pk:=fun (a0,a1)=>[.lst a0 a1]
 up:=fun ls=>match ls with
  | [.lst a0 a1]=>some (a0,a1)
  | _=>none
def f181.l0.P:AS:=⟨[(0,UM),(3,.val false [.sl .own [.leaf]] [.lst 0 []] [] 0),(4,Ar)],0⟩
def f181.l0.A:Fa (Nat × List T):=.one (.exit 0) ⟨[(3,.val false [.sl .own [.leaf]] [.lst 0 []] [] 0)],0⟩ Bo
def f181.l0.F (n m:Nat) (v:Ii):=let (a,b,c,d,e):=v;f181.l0 n m a b c d e
def f181.l0.W (n:Nat):Gi:=.of 48 f181.l0.P BV f181.l0.A (f181.l0.F n n)
def f181.P:List Ae:=[M8]
def f181.A:Ak (Nat × List T):=.one ⟨[RF],[none]⟩ Bo
def f181.F (n:Nat) (v:Nat × List T):=f181 n v.1 v.2
def f181.O (n:Nat):BZ:=AU (E:=E) [] [f181.l0.W n] n
theorem f181.l0.ok:∀ n,HY 181 Tk 0 n (f181.O n):=Ha f181.l0.P BV f181.l0.A f181.l0.F
theorem f181.ok:CT 181 f181.P Bo f181.A f181.F:=Ce Tk f181.O [An Tk 0] (fun n=>(.cons (f181.l0.ok n) .nil))
def f181.w:BX E:=Bm 181 f181.P Bo f181.A f181.F f181.ok
def f152:Nat→Int→Int→Nat→List T→Option (KK)
 | 0,_,_,_,_=>none
 | n+1,i1,i2,n3,l4 =>
   bd (f181 n n3 l4) fun r5 =>
   let n6:=r5.1
   let l7:=r5.2
   some (i1,i2,n6,l7)
def Do:EY (KK) where
 pk:=fun (a0,a1,a2,a3)=>[.int a0,.int a1,.lst a2 a3]
 up:=fun ls=>match ls with
  | [.int a0,.int a1,.lst a2 a3]=>some (a0,a1,a2,a3)
  | _=>none
def f152.P:List Ae:=[MB]
def f152.A:Ak (KK):=.one ⟨[Yq],[none]⟩ Do
def f152.F (n:Nat) (v:KK):=let (a,b,c,d):=v;f152 n a b c d
def f152.O (n:Nat):BZ:=AU (E:=E) [f181.w] [] n
theorem f152.ok:CT 152 f152.P Do f152.A f152.F:=Ce Vc f152.O
def f152.w:BX E:=Bm 152 f152.P Do f152.A f152.F f152.ok
def f111.l0 (n:Nat):Nat→Nat→List T→Nat→List T→Int→Option (Nat × List T)
 | 0,_,_,_,_,_=>none
 | m+1,n1,l2,n3,l4,i5 =>
   br (decide (i5<(n1:Int))) (
    gd ((decide ((0≤i5)∧(i5<(n1:Int))))&&(Ag [(.int .i64),(.int .i64),.lst] l2 (((Int.toNat i5) * 3)+0))) (
    bd (f152 n (DA l2 (((Int.toNat i5) * 3)+0)) (DA l2 ((((Int.toNat i5) * 3)+0)+1)) (EF l2 (((((Int.toNat i5) * 3)+0)+1)+1)) (EN l2 (((((Int.toNat i5) * 3)+0)+1)+1))) fun r6 =>
    let i7:=r6.1
    let i8:=r6.2.1
    let n9:=r6.2.2.1
    let l10:=r6.2.2.2
    gd (decide ((0≤i5)∧(i5<(n3:Int)))) (
    gd (Nat.ble ((((Int.toNat i5) * 3)+0)+3) (List.length l4)) (
    let l11:=(AT l4 (((Int.toNat i5) * 3)+0) [(T.int .i64 i7),(T.int .i64 i8),(T.lst n9 l10)])
    f111.l0 n m n1 l2 n3 l11 (IntKind.i64.wrap (i5+(1:Int))))))) (
    some (n3,l4))
def f111:Nat→Nat→List T→Option (Nat × List T)
 | 0,_,_=>none
 | n+1,n1,l2 =>
   gd (decide ((0≤(n1:Int))∧((n1:Int)≤(2147483648:Int)))) (
   let l3:=(reps n1 [(T.int .i64 (0:Int)),(T.int .i64 (0:Int)),(T.lst 0 [])])
   bd (f111.l0 n n n1 l2 n1 l3 (0:Int)) fun r4 =>
   let n5:=r4.1
   let l6:=r4.2
   some (n5,l6))
def f111.l0.P:AS:=⟨[(0,GQ),(3,Pf),(4,Ar)],0⟩
def f111.l0.A:Fa (Nat × List T):=.one (.exit 0) ⟨[(3,Pf)],0⟩ Bo
def f111.l0.F (n m:Nat) (v:Ii):=let (a,b,c,d,e):=v;f111.l0 n m a b c d e
def f111.l0.W (n:Nat):Gi:=.of 48 f111.l0.P BV f111.l0.A (f111.l0.F n n)
def f111.P:List Ae:=[Io]
def f111.A:Ak (Nat × List T):=.one ⟨[U0],[none]⟩ Bo
def f111.F (n:Nat) (v:Nat × List T):=f111 n v.1 v.2
def f111.O (n:Nat):BZ:=AU (E:=E) [f152.w] [f111.l0.W n] n
theorem f111.l0.ok:∀ n,HY 111 Sr 0 n (f111.O n):=Ha f111.l0.P BV f111.l0.A f111.l0.F
theorem f111.ok:CT 111 f111.P Bo f111.A f111.F:=Ce Sr f111.O [An Sr 0] (fun n=>(.cons (f111.l0.ok n) .nil))
def f111.w:BX E:=Bm 111 f111.P Bo f111.A f111.F f111.ok
def f196:Nat→Int→Int→Nat→List T→Option (KK)
 | 0,_,_,_,_=>none
 | n+1,i1,i2,n3,l4 =>
   bd (f181 n n3 l4) fun r5 =>
   let n6:=r5.1
   let l7:=r5.2
   some (i1,i2,n6,l7)
def f196.P:List Ae:=[MB]
def f196.A:Ak (KK):=.one ⟨[Yq],[none]⟩ Do
def f196.F (n:Nat) (v:KK):=let (a,b,c,d):=v;f196 n a b c d
def f196.O (n:Nat):BZ:=AU (E:=E) [f181.w] [] n
theorem f196.ok:CT 196 f196.P Do f196.A f196.F:=Ce VU f196.O
def f196.w:BX E:=Bm 196 f196.P Do f196.A f196.F f196.ok
def f182.l0 (n:Nat):Nat→Nat→List T→Nat→List T→Int→Option (Nat × List T)
 | 0,_,_,_,_,_=>none
 | m+1,n1,l2,n3,l4,i5 =>
   br (decide (i5<(n1:Int))) (
    gd ((decide ((0≤i5)∧(i5<(n1:Int))))&&(Ag [(.int .i64),(.int .i64),.lst] l2 (((Int.toNat i5) * 3)+0))) (
    bd (f196 n (DA l2 (((Int.toNat i5) * 3)+0)) (DA l2 ((((Int.toNat i5) * 3)+0)+1)) (EF l2 (((((Int.toNat i5) * 3)+0)+1)+1)) (EN l2 (((((Int.toNat i5) * 3)+0)+1)+1))) fun r6 =>
    let i7:=r6.1
    let i8:=r6.2.1
    let n9:=r6.2.2.1
    let l10:=r6.2.2.2
    gd (decide ((0≤i5)∧(i5<(n3:Int)))) (
    gd (Nat.ble ((((Int.toNat i5) * 3)+0)+3) (List.length l4)) (
    let l11:=(AT l4 (((Int.toNat i5) * 3)+0) [(T.int .i64 i7),(T.int .i64 i8),(T.lst n9 l10)])
    f182.l0 n m n1 l2 n3 l11 (IntKind.i64.wrap (i5+(1:Int))))))) (
    some (n3,l4))
def f182:Nat→Nat→List T→Option (Nat × List T)
 | 0,_,_=>none
 | n+1,n1,l2 =>
   gd (decide ((0≤(n1:Int))∧((n1:Int)≤(2147483648:Int)))) (
   let l3:=(reps n1 [(T.int .i64 (0:Int)),(T.int .i64 (0:Int)),(T.lst 0 [])])
   bd (f182.l0 n n n1 l2 n1 l3 (0:Int)) fun r4 =>
   let n5:=r4.1
   let l6:=r4.2
   some (n5,l6))
def f182.l0.P:AS:=⟨[(0,GQ),(3,Pf),(4,Ar)],0⟩
def f182.l0.A:Fa (Nat × List T):=.one (.exit 0) ⟨[(3,Pf)],0⟩ Bo
def f182.l0.F (n m:Nat) (v:Ii):=let (a,b,c,d,e):=v;f182.l0 n m a b c d e
def f182.l0.W (n:Nat):Gi:=.of 48 f182.l0.P BV f182.l0.A (f182.l0.F n n)
def f182.P:List Ae:=[Io]
def f182.A:Ak (Nat × List T):=.one ⟨[U0],[none]⟩ Bo
def f182.F (n:Nat) (v:Nat × List T):=f182 n v.1 v.2
def f182.O (n:Nat):BZ:=AU (E:=E) [f196.w] [f182.l0.W n] n
theorem f182.l0.ok:∀ n,HY 182 Sm 0 n (f182.O n):=Ha f182.l0.P BV f182.l0.A f182.l0.F
theorem f182.ok:CT 182 f182.P Bo f182.A f182.F:=Ce Sm f182.O [An Sm 0] (fun n=>(.cons (f182.l0.ok n) .nil))
def f182.w:BX E:=Bm 182 f182.P Bo f182.A f182.F f182.ok
def f153:Nat→Nat→List T→Int→Nat→Bool→Bool→Option (T0)
 | 0,_,_,_,_,_,_=>none
 | n+1,n1,l2,i3,x4,b5,b6 =>
   bd (f182 n n1 l2) fun r7 =>
   let n8:=r7.1
   let l9:=r7.2
   some (n8,l9,i3,x4,b5,b6)
def LO:EY (T0) where
 pk:=fun (a0,a1,a2,a3,a4,a5)=>[.lst a0 a1,.int a2,.flt a3,.bool a4,.bool a5]
 up:=fun ls=>match ls with
  | [.lst a0 a1,.int a2,.flt a3,.bool a4,.bool a5]=>some (a0,a1,a2,a3,a4,a5)
  | _=>none
def f153.P:List Ae:=[T4]
def f153.A:Ak (T0):=.one ⟨[⟨true,[.sl .own [.leaf,.leaf,.sl .own [.leaf]],.leaf,.leaf,.leaf,.leaf],[.lst 0 [],.int .i64 0,.flt .f32 0,.bool false,.bool false]⟩],[none]⟩ LO
def f153.F (n:Nat) (v:T0):=let (a,b,c,d,e,f):=v;f153 n a b c d e f
def f153.O (n:Nat):BZ:=AU (E:=E) [f182.w] [] n
theorem f153.ok:CT 153 f153.P LO f153.A f153.F:=Ce WE f153.O
def f153.w:BX E:=Bm 153 f153.P LO f153.A f153.F f153.ok
def f112.l0 (n:Nat):Nat→Nat→List T→Nat→List T→Int→Option (Nat × List T)
 | 0,_,_,_,_,_=>none
 | m+1,n1,l2,n3,l4,i5 =>
   br (decide (i5<(n1:Int))) (
    gd ((decide ((0≤i5)∧(i5<(n1:Int))))&&(Ag [.lst,(.int .i64),(.flt .f32),.bool,.bool] l2 (((Int.toNat i5) * 5)+0))) (
    bd (f153 n (EF l2 (((Int.toNat i5) * 5)+0)) (EN l2 (((Int.toNat i5) * 5)+0)) (DA l2 ((((Int.toNat i5) * 5)+0)+1)) (JU l2 (((((Int.toNat i5) * 5)+0)+1)+1)) (KX l2 ((((((Int.toNat i5) * 5)+0)+1)+1)+1)) (KX l2 (((((((Int.toNat i5) * 5)+0)+1)+1)+1)+1))) fun r6 =>
    let n7:=r6.1
    let l8:=r6.2.1
    let i9:=r6.2.2.1
    let x10:=r6.2.2.2.1
    let b11:=r6.2.2.2.2.1
    let b12:=r6.2.2.2.2.2
    gd (decide ((0≤i5)∧(i5<(n3:Int)))) (
    gd (Nat.ble ((((Int.toNat i5) * 5)+0)+5) (List.length l4)) (
    let l13:=(AT l4 (((Int.toNat i5) * 5)+0) [(T.lst n7 l8),(T.int .i64 i9),(T.flt .f32 x10),(T.bool b11),(T.bool b12)])
    f112.l0 n m n1 l2 n3 l13 (IntKind.i64.wrap (i5+(1:Int))))))) (
    some (n3,l4))
def f112:Nat→Nat→List T→Option (Nat × List T)
 | 0,_,_=>none
 | n+1,n1,l2 =>
   gd (decide ((0≤(n1:Int))∧((n1:Int)≤(2147483648:Int)))) (
   let l3:=(reps n1 [(T.lst 0 []),(T.int .i64 (0:Int)),(T.flt .f32 0),(T.bool false),(T.bool false)])
   bd (f112.l0 n n n1 l2 n1 l3 (0:Int)) fun r4 =>
   let n5:=r4.1
   let l6:=r4.2
   some (n5,l6))
def f112.l0.P:AS:=⟨[(0,P6),(3,.val false [.sl .own [.sl .own [.leaf,.leaf,.sl .own [.leaf]],.leaf,.leaf,.leaf,.leaf]] [.lst 0 []] [] 0),(4,Ar)],0⟩
def f112.l0.A:Fa (Nat × List T):=.one (.exit 0) ⟨[(3,.val false [.sl .own [.sl .own [.leaf,.leaf,.sl .own [.leaf]],.leaf,.leaf,.leaf,.leaf]] [.lst 0 []] [] 0)],0⟩ Bo
def f112.l0.F (n m:Nat) (v:Ii):=let (a,b,c,d,e):=v;f112.l0 n m a b c d e
def f112.l0.W (n:Nat):Gi:=.of 48 f112.l0.P BV f112.l0.A (f112.l0.F n n)
def f112.P:List Ae:=[SP]
def f112.A:Ak (Nat × List T):=.one ⟨[Y5],[none]⟩ Bo
def f112.F (n:Nat) (v:Nat × List T):=f112 n v.1 v.2
def f112.O (n:Nat):BZ:=AU (E:=E) [f153.w] [f112.l0.W n] n
theorem f112.l0.ok:∀ n,HY 112 TY 0 n (f112.O n):=Ha f112.l0.P BV f112.l0.A f112.l0.F
theorem f112.ok:CT 112 f112.P Bo f112.A f112.F:=Ce TY f112.O [An TY 0] (fun n=>(.cons (f112.l0.ok n) .nil))
def f112.w:BX E:=Bm 112 f112.P Bo f112.A f112.F f112.ok
def f56:Nat→Nat→List T→Nat→List T→Option (GR)
 | 0,_,_,_,_=>none
 | n+1,n1,l2,n3,l4 =>
   bd (f111 n n1 l2) fun r5 =>
   let n6:=r5.1
   let l7:=r5.2
   bd (f112 n n3 l4) fun r8 =>
   let n9:=r8.1
   let l10:=r8.2
   some (n6,l7,n9,l10)
def CO:EY (GR) where
 pk:=fun (a0,a1,a2,a3)=>[.lst a0 a1,.lst a2 a3]
 up:=fun ls=>match ls with
  | [.lst a0 a1,.lst a2 a3]=>some (a0,a1,a2,a3)
  | _=>none
def f56.P:List Ae:=[MD]
def f56.A:Ak (GR):=.one ⟨[TL],[none]⟩ CO
def f56.F (n:Nat) (v:GR):=let (a,b,c,d):=v;f56 n a b c d
def f56.O (n:Nat):BZ:=AU (E:=E) [f111.w,f112.w] [] n
theorem f56.ok:CT 56 f56.P CO f56.A f56.F:=Ce ZQ f56.O
def f56.w:BX E:=Bm 56 f56.P CO f56.A f56.F f56.ok
def f106:Nat→Int→Int→Int→Option (Bool)
 | 0,_,_,_=>none
 | n+1,i1,i2,i3 =>
   br (decide (i1≥i2)) (
    some (decide (i1≤i3))) (
    some false)
def NQ:EY (Int × Int × Int) where
 pk:=fun (a0,a1,a2)=>[.int a0,.int a1,.int a2]
 up:=fun ls=>match ls with
  | [.int a0,.int a1,.int a2]=>some (a0,a1,a2)
  | _=>none
def Bj:EY (Bool) where
 pk:=fun v=>[.bool v]
 up:=fun ls=>match ls with
  | [.bool a0]=>some a0
  | _=>none
def f106.P:List Ae:=[Bs,Bs,Bs]
def f106.A:Ak (Bool):=.one ⟨[CR],[none,none,none]⟩ Bj
def f106.F (n:Nat) (v:Int × Int × Int):=f106 n v.1 v.2.1 v.2.2
def f106.O (n:Nat):BZ:=AU (E:=E) [] [] n
theorem f106.ok:CT 106 f106.P NQ f106.A f106.F:=Ce Vu f106.O
def f106.w:BX E:=Bm 106 f106.P NQ f106.A f106.F f106.ok
def f145:Nat→Nat→List T→Int→Nat→Bool→Bool→Nat→List T→Option (YX)
 | 0,_,_,_,_,_,_,_,_=>none
 | n+1,n1,l2,i3,x4,b5,b6,n7,l8 =>
   some (n7,l8,i3,x4,b5,b6,n7,l8)
def Jm:EY (YX) where
 pk:=fun (a0,a1,a2,a3,a4,a5,a6,a7)=>[.lst a0 a1,.int a2,.flt a3,.bool a4,.bool a5,.lst a6 a7]
 up:=fun ls=>match ls with
  | [.lst a0 a1,.int a2,.flt a3,.bool a4,.bool a5,.lst a6 a7]=>some (a0,a1,a2,a3,a4,a5,a6,a7)
  | _=>none
def f145.P:List Ae:=[⟨.val,⟨false,[.rf .shr [.sl .shr [.leaf,.leaf,.sl .shr [.leaf]],.leaf,.leaf,.leaf,.leaf]],[.ref [.lst 0 [],.int .i64 0,.flt .f32 0,.bool false,.bool false]]⟩⟩,⟨.io,RF⟩]
def f145.A:Ak (YX):=.one ⟨[⟨true,[.sl .own [.leaf],.leaf,.leaf,.leaf,.leaf],[.lst 0 [],.int .i64 0,.flt .f32 0,.bool false,.bool false]⟩],[none,some ⟨false,[.dead],[.lst 0 []]⟩]⟩ Jm
def f145.F (n:Nat) (v:YX):=let (a,b,c,d,e,f,g,h):=v;f145 n a b c d e f g h
def f145.O (n:Nat):BZ:=AU (E:=E) [] [] n
theorem f145.ok:CT 145 f145.P Jm f145.A f145.F:=Ce WU f145.O
def f145.w:BX E:=Bm 145 f145.P Jm f145.A f145.F f145.ok
def f133:Nat→Int→Int→Option (Int × Int)
 | 0,_,_=>none
 | n+1,i1,i2 =>
   br (i1==(0:Int)) (
    br (i1==(0:Int)) (
     some ((1:Int),(0:Int))) (
     br (i1==(1:Int)) (
      some ((5:Int),(2:Int))) (
      br (i1==(2:Int)) (
       some ((2:Int),i2)) (
       br (i1==(3:Int)) (
        some ((4:Int),(1:Int))) (
        br (i1==(5:Int)) (
         some ((0:Int),(0:Int))) (
         br (i1==(6:Int)) (
          some ((2:Int),(IntKind.i64.wrap ((1:Int)+i2)))) (
          some ((-1:Int),(-1:Int))))))))) (
    br (i1==(4:Int)) (
     some ((1:Int),(0:Int))) (
     br (i1==(1:Int)) (
      some ((5:Int),(2:Int))) (
      br (i1==(2:Int)) (
       some ((2:Int),i2)) (
       br (i1==(3:Int)) (
        some ((4:Int),(1:Int))) (
        br (i1==(5:Int)) (
         some ((0:Int),(0:Int))) (
         br (i1==(6:Int)) (
          some ((2:Int),(IntKind.i64.wrap ((1:Int)+i2)))) (
          some ((-1:Int),(-1:Int)))))))))
def OY:EY (Int × Int) where
 pk:=fun (a0,a1)=>[.int a0,.int a1]
 up:=fun ls=>match ls with
  | [.int a0,.int a1]=>some (a0,a1)
  | _=>none
def f133.P:List Ae:=[Bs,Bs]
def f133.A:Ak (Int × Int):=.one ⟨[FA,FA],[none,none]⟩ OY
def f133.F (n:Nat) (v:Int × Int):=f133 n v.1 v.2
def f133.O (n:Nat):BZ:=AU (E:=E) [] [] n
theorem f133.ok:CT 133 f133.P OY f133.A f133.F:=Ce V5 f133.O
def f133.w:BX E:=Bm 133 f133.P OY f133.A f133.F f133.ok
def f205:Nat→Nat→Option (Bool)
 | 0,_=>none
 | n+1,x1 =>
   some (Pj .f32 (E8 .f32 x1 x1) 0)
def KL:EY (Nat) where
 pk:=fun v=>[.flt v]
 up:=fun ls=>match ls with
  | [.flt a0]=>some a0
  | _=>none
def f205.P:List Ae:=[RE]
def f205.A:Ak (Bool):=.one ⟨[CR],[none]⟩ Bj
def f205.F (n:Nat) (v:Nat):=f205 n v
def f205.O (n:Nat):BZ:=AU (E:=E) [] [] n
theorem f205.ok:CT 205 f205.P KL f205.A f205.F:=Ce WJ f205.O
def f205.w:BX E:=Bm 205 f205.P KL f205.A f205.F f205.ok
def f194:Nat→Nat→Option (Bool)
 | 0,_=>none
 | n+1,x1 =>
   bd (f205 n x1) fun r2 =>
   let b3:=r2
   br b3 (
    some (Qy .f32 x1 0)) (
    some false)
def f194.P:List Ae:=[RE]
def f194.A:Ak (Bool):=.one ⟨[CR],[none]⟩ Bj
def f194.F (n:Nat) (v:Nat):=f194 n v
def f194.O (n:Nat):BZ:=AU (E:=E) [f205.w] [] n
theorem f194.ok:CT 194 f194.P KL f194.A f194.F:=Ce Vl f194.O
def f194.w:BX E:=Bm 194 f194.P KL f194.A f194.F f194.ok
def f177:Nat→Int→Int→Nat→List T→Option (Bool)
 | 0,_,_,_,_=>none
 | n+1,i1,i2,n3,l4 =>
   br (i1==(2:Int)) (
    br (i1==(6:Int)) (
     bd (f106 n i2 (1:Int) (32:Int)) fun r5 =>
     let b6:=r5
     br (!b6) (
      some false) (
      bd (f133 n i1 i2) fun r7 =>
      let i8:=r7.1
      br ((n3:Int)==i8) (
       br (i1 != (6:Int)) (
        some true) (
        gd ((decide ((0≤(0:Int))∧((0:Int)<(n3:Int))))&&(Ag [(.flt .f32)] l4 0)) (
        bd (f194 n (JU l4 0)) fun r10 =>
        let b11:=r10
        some b11))) (
       some false))) (
     bd (f106 n i2 (1:Int) (32:Int)) fun r12 =>
     let b13:=r12
     br (!b13) (
      some false) (
      bd (f133 n i1 i2) fun r14 =>
      let i15:=r14.1
      br ((n3:Int)==i15) (
       br (i1 != (6:Int)) (
        some true) (
        gd ((decide ((0≤(0:Int))∧((0:Int)<(n3:Int))))&&(Ag [(.flt .f32)] l4 0)) (
        bd (f194 n (JU l4 0)) fun r17 =>
        let b18:=r17
        some b18))) (
       some false)))) (
    br (i1==(6:Int)) (
     bd (f106 n i2 (0:Int) (32:Int)) fun r19 =>
     let b20:=r19
     br (!b20) (
      some false) (
      bd (f133 n i1 i2) fun r21 =>
      let i22:=r21.1
      br ((n3:Int)==i22) (
       br (i1 != (6:Int)) (
        some true) (
        gd ((decide ((0≤(0:Int))∧((0:Int)<(n3:Int))))&&(Ag [(.flt .f32)] l4 0)) (
        bd (f194 n (JU l4 0)) fun r24 =>
        let b25:=r24
        some b25))) (
       some false))) (
     bd (f106 n i2 (0:Int) (0:Int)) fun r26 =>
     let b27:=r26
     br (!b27) (
      some false) (
      bd (f133 n i1 i2) fun r28 =>
      let i29:=r28.1
      br ((n3:Int)==i29) (
       br (i1 != (6:Int)) (
        some true) (
        gd ((decide ((0≤(0:Int))∧((0:Int)<(n3:Int))))&&(Ag [(.flt .f32)] l4 0)) (
        bd (f194 n (JU l4 0)) fun r31 =>
        let b32:=r31
        some b32))) (
       some false))))
def f177.P:List Ae:=[⟨.val,⟨false,[.rf .shr [.leaf,.leaf,.sl .shr [.leaf]]],[.ref [.int .i64 0,.int .i64 0,.lst 0 []]]⟩⟩]
def f177.A:Ak (Bool):=.one ⟨[CR],[none]⟩ Bj
def f177.F (n:Nat) (v:KK):=let (a,b,c,d):=v;f177 n a b c d
def f177.O (n:Nat):BZ:=AU (E:=E) [f106.w,f133.w,f194.w] [] n
theorem f177.ok:CT 177 f177.P Do f177.A f177.F:=Ce WN f177.O
def f177.w:BX E:=Bm 177 f177.P Do f177.A f177.F f177.ok
def f146.l0 (n:Nat):Nat→Nat→List T→Int→Option ((Bool) ⊕ (Nat × List T))
 | 0,_,_,_=>none
 | m+1,n1,l2,i3 =>
   br (decide (i3<(n1:Int))) (
    br (decide ((n1:Int)≤(8:Int))) (
     gd ((decide ((0≤i3)∧(i3<(n1:Int))))&&(Ag [(.int .i64),(.int .i64),.lst] l2 (((Int.toNat i3) * 3)+0))) (
     bd (f177 n (DA l2 (((Int.toNat i3) * 3)+0)) (DA l2 ((((Int.toNat i3) * 3)+0)+1)) (EF l2 (((((Int.toNat i3) * 3)+0)+1)+1)) (EN l2 (((((Int.toNat i3) * 3)+0)+1)+1))) fun r4 =>
     let b5:=r4
     br (!b5) (
      some (Sum.inl false)) (
      f146.l0 n m n1 l2 (IntKind.i64.wrap (i3+(1:Int)))))) (
     some (Sum.inr (n1,l2)))) (
    some (Sum.inr (n1,l2)))
def f146:Nat→Nat→List T→Option (Bool)
 | 0,_,_=>none
 | n+1,n1,l2 =>
   bd (f146.l0 n n n1 l2 (0:Int)) fun r3 =>
   sm r3 (fun u4 =>
    let b5:=u4
    some b5) (fun u6 =>
    let n7:=u6.1
    let l8:=u6.2
    some (decide ((n7:Int)≤(8:Int))))
def f146.l0.P:AS:=⟨[(0,GQ),(3,Ar)],0⟩
def f146.l0.A:Fa ((Bool) ⊕ (Nat × List T)):=.or (.one .ret ⟨[(0,.dead),(2,Ke)],0⟩ Bj) (.one (.exit 0) ⟨[(0,GQ),(2,.dead)],0⟩ Bo)
def f146.l0.F (n m:Nat) (v:Nat × List T × Int):=f146.l0 n m v.1 v.2.1 v.2.2
def f146.l0.W (n:Nat):Gi:=.of 32 f146.l0.P Ba f146.l0.A (f146.l0.F n n)
def f146.P:List Ae:=[Io]
def f146.A:Ak (Bool):=.one ⟨[CR],[none]⟩ Bj
def f146.F (n:Nat) (v:Nat × List T):=f146 n v.1 v.2
def f146.O (n:Nat):BZ:=AU (E:=E) [f177.w] [f146.l0.W n] n
theorem f146.l0.ok:∀ n,HY 146 S4 0 n (f146.O n):=Ha f146.l0.P Ba f146.l0.A f146.l0.F
theorem f146.ok:CT 146 f146.P Bo f146.A f146.F:=Ce S4 f146.O [An S4 0] (fun n=>(.cons (f146.l0.ok n) .nil))
def f146.w:BX E:=Bm 146 f146.P Bo f146.A f146.F f146.ok
def f148:Nat→Nat→List T→Option (Bool)
 | 0,_,_=>none
 | n+1,n1,l2 =>
   some (decide ((n1:Int)≤(256:Int)))
def f148.P:List Ae:=[M8]
def f148.A:Ak (Bool):=.one ⟨[CR],[none]⟩ Bj
def f148.F (n:Nat) (v:Nat × List T):=f148 n v.1 v.2
def f148.O (n:Nat):BZ:=AU (E:=E) [] [] n
theorem f148.ok:CT 148 f148.P Bo f148.A f148.F:=Ce WS f148.O
def f148.w:BX E:=Bm 148 f148.P Bo f148.A f148.F f148.ok
def f178:Nat→Nat→Option (Bool)
 | 0,_=>none
 | n+1,x1 =>
   br (Su .f32 x1 0) (
    some (UE .f32 x1 1065353216)) (
    some false)
def f178.P:List Ae:=[RE]
def f178.A:Ak (Bool):=.one ⟨[CR],[none]⟩ Bj
def f178.F (n:Nat) (v:Nat):=f178 n v
def f178.O (n:Nat):BZ:=AU (E:=E) [] [] n
theorem f178.ok:CT 178 f178.P KL f178.A f178.F:=Ce VV f178.O
def f178.w:BX E:=Bm 178 f178.P KL f178.A f178.F f178.ok
def f147.l0 (n:Nat):Nat→Nat→List T→Int→Int→Option ((Bool) ⊕ (Nat × List T))
 | 0,_,_,_,_=>none
 | m+1,n1,l2,i3,i4 =>
   br (decide (i4<i3)) (
    gd ((decide ((0≤i4)∧(i4<(n1:Int))))&&(Ag [.lst,(.int .i64),(.flt .f32),.bool,.bool] l2 (((Int.toNat i4) * 5)+0))) (
    bd (f148 n (EF l2 (((Int.toNat i4) * 5)+0)) (EN l2 (((Int.toNat i4) * 5)+0))) fun r5 =>
    let b6:=r5
    br (!b6) (
     some (Sum.inl false)) (
     gd ((decide ((0≤i4)∧(i4<(n1:Int))))&&(Ag [.lst,(.int .i64),(.flt .f32),.bool,.bool] l2 (((Int.toNat i4) * 5)+0))) (
     bd (f106 n (DA l2 ((((Int.toNat i4) * 5)+0)+1)) (-2000:Int) (2000:Int)) fun r7 =>
     let b8:=r7
     br (!b8) (
      some (Sum.inl false)) (
      gd ((decide ((0≤i4)∧(i4<(n1:Int))))&&(Ag [.lst,(.int .i64),(.flt .f32),.bool,.bool] l2 (((Int.toNat i4) * 5)+0))) (
      bd (f178 n (JU l2 (((((Int.toNat i4) * 5)+0)+1)+1))) fun r9 =>
      let b10:=r9
      br (!b10) (
       some (Sum.inl false)) (
       f147.l0 n m n1 l2 i3 (IntKind.i64.wrap (i4+(1:Int)))))))))) (
    some (Sum.inr (n1,l2)))
def f147:Nat→Nat→List T→Option (Bool)
 | 0,_,_=>none
 | n+1,n1,l2 =>
   bd (f147.l0 n n n1 l2 (n1:Int) (0:Int)) fun r3 =>
   sm r3 (fun u4 =>
    let b5:=u4
    some b5) (fun u6 =>
    let n7:=u6.1
    let l8:=u6.2
    some (decide ((n7:Int)≤(8:Int))))
def f147.l0.P:AS:=⟨[(0,.val false [.sl .shr [.sl .shr [.leaf],.leaf,.leaf,.leaf,.leaf]] [.lst 0 []] [] 0),(5,Ar),(6,Ar)],0⟩
def f147.l0.A:Fa ((Bool) ⊕ (Nat × List T)):=.or (.one .ret ⟨[(0,.dead),(2,Ke)],0⟩ Bj) (.one (.exit 0) ⟨[(0,.val false [.sl .shr [.sl .shr [.leaf],.leaf,.leaf,.leaf,.leaf]] [.lst 0 []] [] 0),(2,.dead)],0⟩ Bo)
def f147.l0.F (n m:Nat) (v:JG):=let (a,b,c,d):=v;f147.l0 n m a b c d
def f147.l0.W (n:Nat):Gi:=.of 32 f147.l0.P BT f147.l0.A (f147.l0.F n n)
def f147.P:List Ae:=[⟨.val,⟨false,[.sl .shr [.sl .shr [.leaf],.leaf,.leaf,.leaf,.leaf]],[.lst 0 []]⟩⟩]
def f147.A:Ak (Bool):=.one ⟨[CR],[none]⟩ Bj
def f147.F (n:Nat) (v:Nat × List T):=f147 n v.1 v.2
def f147.O (n:Nat):BZ:=AU (E:=E) [f106.w,f148.w,f178.w] [f147.l0.W n] n
theorem f147.l0.ok:∀ n,HY 147 Sx 0 n (f147.O n):=Ha f147.l0.P BT f147.l0.A f147.l0.F
theorem f147.ok:CT 147 f147.P Bo f147.A f147.F:=Ce Sx f147.O [An Sx 0] (fun n=>(.cons (f147.l0.ok n) .nil))
def f147.w:BX E:=Bm 147 f147.P Bo f147.A f147.F f147.ok
def f105.l0 (n:Nat):Nat→Nat→List T→Nat→List T→Int→Int→Int→Option ((Bool) ⊕ (Ii))
 | 0,_,_,_,_,_,_,_=>none
 | m+1,n1,l2,n3,l4,i5,i6,i7 =>
   br (decide (i7<i6)) (
    gd ((decide ((0≤i7)∧(i7<(n3:Int))))&&(Ag [.lst,(.int .i64),(.flt .f32),.bool,.bool] l4 (((Int.toNat i7) * 5)+0))) (
    bd (f145 n (EF l4 (((Int.toNat i7) * 5)+0)) (EN l4 (((Int.toNat i7) * 5)+0)) (DA l4 ((((Int.toNat i7) * 5)+0)+1)) (JU l4 (((((Int.toNat i7) * 5)+0)+1)+1)) (KX l4 ((((((Int.toNat i7) * 5)+0)+1)+1)+1)) (KX l4 (((((((Int.toNat i7) * 5)+0)+1)+1)+1)+1)) 0 (reps 0 [(T.flt .f32 0)])) fun r8 =>
    let n9:=r8.1
    let l10:=r8.2.1
    let i11:=r8.2.2.1
    let x12:=r8.2.2.2.1
    let b13:=r8.2.2.2.2.1
    let b14:=r8.2.2.2.2.2.1
    gd ((decide ((0≤i7)∧(i7<(n3:Int))))&&(Ag [.lst,(.int .i64),(.flt .f32),.bool,.bool] l4 (((Int.toNat i7) * 5)+0))) (
    bd (f146 n (EF l4 (((Int.toNat i7) * 5)+0)) (EN l4 (((Int.toNat i7) * 5)+0))) fun r17 =>
    let b18:=r17
    br (!b18) (
     some (Sum.inl false)) (
     bd (f147 n 1 (AT (reps 1 [(T.lst 0 []),(T.int .i64 (0:Int)),(T.flt .f32 0),(T.bool false),(T.bool false)]) 0 [(T.lst n9 l10),(T.int .i64 i11),(T.flt .f32 x12),(T.bool b13),(T.bool b14)])) fun r19 =>
     let b20:=r19
     br (!b20) (
      some (Sum.inl false)) (
      f105.l0 n m n1 l2 n3 l4 i5 i6 (IntKind.i64.wrap (i7+(1:Int)))))))) (
    some (Sum.inr (n1,l2,n3,l4,i5)))
def f105.l1 (n:Nat):Nat→Nat→List T→Nat→List T→Int→Int→Int→Option ((Bool) ⊕ (Unit))
 | 0,_,_,_,_,_,_,_=>none
 | m+1,n1,l2,n3,l4,i5,i6,i7 =>
   br (decide (i7<i6)) (
    gd ((decide ((0≤i7)∧(i7<(n1:Int))))&&(Ag [(.int .i64),(.int .i64),.lst] l2 (((Int.toNat i7) * 3)+0))) (
    bd (f106 n (DA l2 (((Int.toNat i7) * 3)+0)) (0:Int) (IntKind.i64.wrap (i5 - (1:Int)))) fun r8 =>
    let b9:=r8
    br (!b9) (
     some (Sum.inl false)) (
     gd ((decide ((0≤i7)∧(i7<(n1:Int))))&&(Ag [(.int .i64),(.int .i64),.lst] l2 (((Int.toNat i7) * 3)+0))) (
     bd (f106 n (DA l2 ((((Int.toNat i7) * 3)+0)+1)) (0:Int) (256:Int)) fun r10 =>
     let b11:=r10
     br (!b11) (
      some (Sum.inl false)) (
      gd ((decide ((0≤i7)∧(i7<(n1:Int))))&&(Ag [(.int .i64),(.int .i64),.lst] l2 (((Int.toNat i7) * 3)+0))) (
      bd (f148 n (EF l2 (((((Int.toNat i7) * 3)+0)+1)+1)) (EN l2 (((((Int.toNat i7) * 3)+0)+1)+1))) fun r12 =>
      let b13:=r12
      br (!b13) (
       some (Sum.inl false)) (
       f105.l1 n m n1 l2 n3 l4 i5 i6 (IntKind.i64.wrap (i7+(1:Int)))))))))) (
    some (Sum.inr ()))
def f105:Nat→Nat→List T→Nat→List T→Option (Bool)
 | 0,_,_,_,_=>none
 | n+1,n1,l2,n3,l4 =>
   let i5:=(n3:Int)
   bd (f106 n i5 (1:Int) (8:Int)) fun r6 =>
   let b7:=r6
   br (!b7) (
    some false) (
    br (decide ((n1:Int)>(12:Int))) (
     some false) (
     bd (f105.l0 n n n1 l2 n3 l4 i5 (n3:Int) (0:Int)) fun r8 =>
     sm r8 (fun u9 =>
      let b10:=u9
      some b10) (fun u11 =>
      let n12:=u11.1
      let l13:=u11.2.1
      let n14:=u11.2.2.1
      let l15:=u11.2.2.2.1
      let i16:=u11.2.2.2.2
      bd (f105.l1 n n n12 l13 n14 l15 i16 (n12:Int) (0:Int)) fun r17 =>
      sm r17 (fun u18 =>
       let b19:=u18
       some b19) (fun u20 =>
       some true))))
def Il:EY (ZA) where
 pk:=fun (a0,a1,a2,a3,a4,a5,a6)=>[.lst a0 a1,.lst a2 a3,.int a4,.int a5,.int a6]
 up:=fun ls=>match ls with
  | [.lst a0 a1,.lst a2 a3,.int a4,.int a5,.int a6]=>some (a0,a1,a2,a3,a4,a5,a6)
  | _=>none
def sg:EY (Unit) where
 pk:=fun v=>[]
 up:=fun ls=>match ls with
  | []=>some ()
  | _=>none
def f105.l0.P:AS:=⟨[(0,Rh),(3,Ar),(27,Ar),(28,Ar)],0⟩
def f105.l0.A:Fa ((Bool) ⊕ (Ii)):=.or (.one .ret ⟨[(0,.dead),(2,Ke),(3,.dead),(100,.dead)],0⟩ Bj) (.one (.exit 0) ⟨[(0,Rh),(2,.dead),(3,Ar),(100,.dead)],0⟩ BV)
def f105.l0.F (n m:Nat) (v:ZA):=let (a,b,c,d,e,f,g):=v;f105.l0 n m a b c d e f g
def f105.l0.W (n:Nat):Gi:=.of 80 f105.l0.P Il f105.l0.A (f105.l0.F n n)
def f105.l1.P:AS:=⟨[(0,Rh),(3,Ar),(60,Ar),(61,Ar)],0⟩
def f105.l1.A:Fa ((Bool) ⊕ (Unit)):=.or (.one .ret ⟨[(2,Ke)],0⟩ Bj) (.one (.exit 2) ⟨[(2,.dead)],0⟩ sg)
def f105.l1.F (n m:Nat) (v:ZA):=let (a,b,c,d,e,f,g):=v;f105.l1 n m a b c d e f g
def f105.l1.W (n:Nat):Gi:=.of 192 f105.l1.P Il f105.l1.A (f105.l1.F n n)
def f105.P:List Ae:=[⟨.val,⟨false,[.rf .shr [.sl .shr [.leaf,.leaf,.sl .shr [.leaf]],.sl .shr [.sl .shr [.leaf,.leaf,.sl .shr [.leaf]],.leaf,.leaf,.leaf,.leaf]]],[.ref [.lst 0 [],.lst 0 []]]⟩⟩]
def f105.A:Ak (Bool):=.one ⟨[CR],[none]⟩ Bj
def f105.F (n:Nat) (v:GR):=let (a,b,c,d):=v;f105 n a b c d
def f105.O (n:Nat):BZ:=AU (E:=E) [f106.w,f145.w,f146.w,f148.w,f147.w] [f105.l0.W n,f105.l1.W n] n
theorem f105.l0.ok:∀ n,HY 105 Pr 0 n (f105.O n):=Ha f105.l0.P Il f105.l0.A f105.l0.F
theorem f105.l1.ok:∀ n,HY 105 Pr 1 n (f105.O n):=Ha f105.l1.P Il f105.l1.A f105.l1.F
theorem f105.ok:CT 105 f105.P CO f105.A f105.F:=Ce Pr f105.O [An Pr 0,An Pr 1] (fun n=>(.cons (f105.l0.ok n) (.cons (f105.l1.ok n) .nil)))
def f105.w:BX E:=Bm 105 f105.P CO f105.A f105.F f105.ok
def f119:Nat→Nat→List T→Option (Nat × List T)
 | 0,_,_=>none
 | n+1,n1,l2 =>
   gd (Nat.ble (0+n1) 2147483648) (
   some ((0+n1),((reps 0 [(T.flt .f32 0)])++l2)))
def f119.P:List Ae:=[M8]
def f119.A:Ak (Nat × List T):=.one ⟨[RF],[none]⟩ Bo
def f119.F (n:Nat) (v:Nat × List T):=f119 n v.1 v.2
def f119.O (n:Nat):BZ:=AU (E:=E) [] [] n
theorem f119.ok:CT 119 f119.P Bo f119.A f119.F:=Ce V0 f119.O
def f119.w:BX E:=Bm 119 f119.P Bo f119.A f119.F f119.ok
def f108:Nat→Int→Int→Nat→List T→Option (KK)
 | 0,_,_,_,_=>none
 | n+1,i1,i2,n3,l4 =>
   bd (f119 n n3 l4) fun r5 =>
   let n6:=r5.1
   let l7:=r5.2
   some (i1,i2,n6,l7)
def f108.P:List Ae:=[⟨.val,⟨false,[.rf .shr [.leaf,.leaf,.sl .shr [.leaf]]],[.ref [.int .i64 0,.int .i64 0,.lst 0 []]]⟩⟩]
def f108.A:Ak (KK):=.one ⟨[Yq],[none]⟩ Do
def f108.F (n:Nat) (v:KK):=let (a,b,c,d):=v;f108 n a b c d
def f108.O (n:Nat):BZ:=AU (E:=E) [f119.w] [] n
theorem f108.ok:CT 108 f108.P Do f108.A f108.F:=Ce VK f108.O
def f108.w:BX E:=Bm 108 f108.P Do f108.A f108.F f108.ok
def f107.l0 (n:Nat):Nat→Nat→List T→Nat→List T→Nat→List T→Nat→List T→Nat→List T→Nat→List T→Int→Int→Option (XQ)
 | 0,_,_,_,_,_,_,_,_,_,_,_,_,_,_=>none
 | m+1,n1,l2,n3,l4,n5,l6,n7,l8,n9,l10,n11,l12,i13,i14 =>
   br (decide (i14<i13)) (
    gd ((decide ((0≤i14)∧(i14<(n1:Int))))&&(Ag [(.int .i64),(.int .i64),.lst] l2 (((Int.toNat i14) * 3)+0))) (
    bd (f108 n (DA l2 (((Int.toNat i14) * 3)+0)) (DA l2 ((((Int.toNat i14) * 3)+0)+1)) (EF l2 (((((Int.toNat i14) * 3)+0)+1)+1)) (EN l2 (((((Int.toNat i14) * 3)+0)+1)+1))) fun r15 =>
    let i16:=r15.1
    let i17:=r15.2.1
    let n18:=r15.2.2.1
    let l19:=r15.2.2.2
    gd (Nat.ble (n9+1) 2147483648) (
    let n20:=(n9+1)
    let l21:=(l10++(AT (reps 1 [(T.int .i64 (0:Int)),(T.int .i64 (0:Int)),(T.lst 0 [])]) 0 [(T.int .i64 i16),(T.int .i64 i17),(T.lst n18 l19)]))
    f107.l0 n m n1 l2 n3 l4 n5 l6 n7 l8 n20 l21 n11 l12 i13 (IntKind.i64.wrap (i14+(1:Int)))))) (
    some (n1,l2,n3,l4,n5,l6,n7,l8,n9,l10,n11,l12))
termination_by structural x=>x
def f149.l0 (n:Nat):Nat→Nat→List T→Nat→List T→Int→Int→Option (Nat × List T)
 | 0,_,_,_,_,_,_=>none
 | m+1,n1,l2,n3,l4,i5,i6 =>
   br (decide (i6<i5)) (
    gd ((decide ((0≤i6)∧(i6<(n1:Int))))&&(Ag [(.int .i64),(.int .i64),.lst] l2 (((Int.toNat i6) * 3)+0))) (
    let i7:=(DA l2 (((Int.toNat i6) * 3)+0))
    let i8:=(DA l2 ((((Int.toNat i6) * 3)+0)+1))
    let n9:=(EF l2 (((((Int.toNat i6) * 3)+0)+1)+1))
    let l10:=(EN l2 (((((Int.toNat i6) * 3)+0)+1)+1))
    bd (f119 n n9 l10) fun r11 =>
    let n12:=r11.1
    let l13:=r11.2
    gd (Nat.ble (n3+1) 2147483648) (
    let n14:=(n3+1)
    let l15:=(l4++(AT (reps 1 [(T.int .i64 (0:Int)),(T.int .i64 (0:Int)),(T.lst 0 [])]) 0 [(T.int .i64 i7),(T.int .i64 i8),(T.lst n12 l13)]))
    f149.l0 n m n1 l2 n14 l15 i5 (IntKind.i64.wrap (i6+(1:Int)))))) (
    some (n3,l4))
def f149:Nat→Nat→List T→Option (Nat × List T)
 | 0,_,_=>none
 | n+1,n1,l2 =>
   bd (f149.l0 n n n1 l2 0 (reps 0 [(T.int .i64 (0:Int)),(T.int .i64 (0:Int)),(T.lst 0 [])]) (n1:Int) (0:Int)) fun r3 =>
   let n4:=r3.1
   let l5:=r3.2
   some (n4,l5)
def Dv:EY (RK) where
 pk:=fun (a0,a1,a2,a3,a4,a5)=>[.lst a0 a1,.lst a2 a3,.int a4,.int a5]
 up:=fun ls=>match ls with
  | [.lst a0 a1,.lst a2 a3,.int a4,.int a5]=>some (a0,a1,a2,a3,a4,a5)
  | _=>none
def f149.l0.P:AS:=⟨[(0,GQ),(3,Pf),(8,Ar),(9,Ar)],0⟩
def f149.l0.A:Fa (Nat × List T):=.one (.exit 0) ⟨[(3,Pf)],0⟩ Bo
def f149.l0.F (n m:Nat) (v:RK):=let (a,b,c,d,e,f):=v;f149.l0 n m a b c d e f
def f149.l0.W (n:Nat):Gi:=.of 48 f149.l0.P Dv f149.l0.A (f149.l0.F n n)
def f149.P:List Ae:=[Io]
def f149.A:Ak (Nat × List T):=.one ⟨[U0],[none]⟩ Bo
def f149.F (n:Nat) (v:Nat × List T):=f149 n v.1 v.2
def f149.O (n:Nat):BZ:=AU (E:=E) [f119.w] [f149.l0.W n] n
theorem f149.l0.ok:∀ n,HY 149 TK 0 n (f149.O n):=Ha f149.l0.P Dv f149.l0.A f149.l0.F
theorem f149.ok:CT 149 f149.P Bo f149.A f149.F:=Ce TK f149.O [An TK 0] (fun n=>(.cons (f149.l0.ok n) .nil))
def f149.w:BX E:=Bm 149 f149.P Bo f149.A f149.F f149.ok
def f107.l1 (n:Nat):Nat→Nat→List T→Nat→List T→Nat→List T→Nat→List T→Nat→List T→Nat→List T→Int→Int→Option (Wf)
 | 0,_,_,_,_,_,_,_,_,_,_,_,_,_,_=>none
 | m+1,n1,l2,n3,l4,n5,l6,n7,l8,n9,l10,n11,l12,i13,i14 =>
   br (decide (i14<i13)) (
    gd ((decide ((0≤i14)∧(i14<(n3:Int))))&&(Ag [.lst,(.int .i64),(.flt .f32),.bool,.bool] l4 (((Int.toNat i14) * 5)+0))) (
    let n15:=(EF l4 (((Int.toNat i14) * 5)+0))
    let l16:=(EN l4 (((Int.toNat i14) * 5)+0))
    let i17:=(DA l4 ((((Int.toNat i14) * 5)+0)+1))
    let x18:=(JU l4 (((((Int.toNat i14) * 5)+0)+1)+1))
    let b19:=(KX l4 ((((((Int.toNat i14) * 5)+0)+1)+1)+1))
    let b20:=(KX l4 (((((((Int.toNat i14) * 5)+0)+1)+1)+1)+1))
    bd (f149 n n15 l16) fun r21 =>
    let n22:=r21.1
    let l23:=r21.2
    gd (Nat.ble (n11+1) 2147483648) (
    let n24:=(n11+1)
    let l25:=(l12++(AT (reps 1 [(T.lst 0 []),(T.int .i64 (0:Int)),(T.flt .f32 0),(T.bool false),(T.bool false)]) 0 [(T.lst n22 l23),(T.int .i64 i17),(T.flt .f32 x18),(T.bool b19),(T.bool b20)]))
    f107.l1 n m n1 l2 n3 l4 n5 l6 n7 l8 n9 l10 n24 l25 i13 (IntKind.i64.wrap (i14+(1:Int)))))) (
    some (n5,l6,n7,l8,n9,l10,n11,l12))
termination_by structural x=>x
def f107:Nat→Nat→List T→Nat→List T→Option (GR)
 | 0,_,_,_,_=>none
 | n+1,n1,l2,n3,l4 =>
   bd (f107.l0 n n n1 l2 n3 l4 0 [] 0 [] 0 (reps 0 [(T.int .i64 (0:Int)),(T.int .i64 (0:Int)),(T.lst 0 [])]) 0 (reps 0 [(T.lst 0 []),(T.int .i64 (0:Int)),(T.flt .f32 0),(T.bool false),(T.bool false)]) (n1:Int) (0:Int)) fun r5 =>
   let n6:=r5.1
   let l7:=r5.2.1
   let n8:=r5.2.2.1
   let l9:=r5.2.2.2.1
   let n10:=r5.2.2.2.2.1
   let l11:=r5.2.2.2.2.2.1
   let n12:=r5.2.2.2.2.2.2.1
   let l13:=r5.2.2.2.2.2.2.2.1
   let n14:=r5.2.2.2.2.2.2.2.2.1
   let l15:=r5.2.2.2.2.2.2.2.2.2.1
   let n16:=r5.2.2.2.2.2.2.2.2.2.2.1
   let l17:=r5.2.2.2.2.2.2.2.2.2.2.2
   bd (f107.l1 n n n6 l7 n8 l9 n10 l11 n12 l13 n14 l15 n16 l17 (n8:Int) (0:Int)) fun r18 =>
   let n23:=r18.2.2.2.2.1
   let l24:=r18.2.2.2.2.2.1
   let n25:=r18.2.2.2.2.2.2.1
   let l26:=r18.2.2.2.2.2.2.2
   some (n23,l24,n25,l26)
def FI:EY (Y3) where
 pk:=fun (a0,a1,a2,a3,a4,a5,a6,a7,a8,a9,a10,a11,a12,a13)=>[.lst a0 a1,.lst a2 a3,.lst a4 a5,.lst a6 a7,.lst a8 a9,.lst a10 a11,.int a12,.int a13]
 up:=fun ls=>match ls with
  | [.lst a0 a1,.lst a2 a3,.lst a4 a5,.lst a6 a7,.lst a8 a9,.lst a10 a11,.int a12,.int a13]=>some (a0,a1,a2,a3,a4,a5,a6,a7,a8,a9,a10,a11,a12,a13)
  | _=>none
def Mv:EY (XQ) where
 pk:=fun (a0,a1,a2,a3,a4,a5,a6,a7,a8,a9,a10,a11)=>[.lst a0 a1,.lst a2 a3,.lst a4 a5,.lst a6 a7,.lst a8 a9,.lst a10 a11]
 up:=fun ls=>match ls with
  | [.lst a0 a1,.lst a2 a3,.lst a4 a5,.lst a6 a7,.lst a8 a9,.lst a10 a11]=>some (a0,a1,a2,a3,a4,a5,a6,a7,a8,a9,a10,a11)
  | _=>none
def KZ:EY (Wf) where
 pk:=fun (a0,a1,a2,a3,a4,a5,a6,a7)=>[.lst a0 a1,.lst a2 a3,.lst a4 a5,.lst a6 a7]
 up:=fun ls=>match ls with
  | [.lst a0 a1,.lst a2 a3,.lst a4 a5,.lst a6 a7]=>some (a0,a1,a2,a3,a4,a5,a6,a7)
  | _=>none
def f107.l0.P:AS:=⟨[(0,Rh),(2,HW),(3,HW),(14,Ar),(15,Ar)],0⟩
def f107.l0.A:Fa (XQ):=.one (.exit 0) ⟨[(0,Rh),(2,HW),(3,HW),(56,.dead)],0⟩ Mv
def f107.l0.F (n m:Nat) (v:Y3):=let (a,b,c,d,e,f,g,h,i,j,k,l,o,p):=v;f107.l0 n m a b c d e f g h i j k l o p
def f107.l0.W (n:Nat):Gi:=.of 48 f107.l0.P FI f107.l0.A (f107.l0.F n n)
def f107.l1.P:AS:=⟨[(0,Rh),(2,HW),(3,HW),(35,Ar),(36,Ar)],0⟩
def f107.l1.A:Fa (Wf):=.one (.exit 2) ⟨[(2,HW),(3,HW)],0⟩ KZ
def f107.l1.F (n m:Nat) (v:Y3):=let (a,b,c,d,e,f,g,h,i,j,k,l,o,p):=v;f107.l1 n m a b c d e f g h i j k l o p
def f107.l1.W (n:Nat):Gi:=.of 128 f107.l1.P FI f107.l1.A (f107.l1.F n n)
def f107.P:List Ae:=[⟨.val,⟨false,[.rf .shr [.sl .shr [.leaf,.leaf,.sl .shr [.leaf]],.sl .shr [.sl .shr [.leaf,.leaf,.sl .shr [.leaf]],.leaf,.leaf,.leaf,.leaf]]],[.ref [.lst 0 [],.lst 0 []]]⟩⟩]
def f107.A:Ak (GR):=.one ⟨[TL],[none]⟩ CO
def f107.F (n:Nat) (v:GR):=let (a,b,c,d):=v;f107 n a b c d
def f107.O (n:Nat):BZ:=AU (E:=E) [f108.w,f149.w] [f107.l0.W n,f107.l1.W n] n
theorem f107.l0.ok:∀ n,HY 107 QL 0 n (f107.O n):=Ha f107.l0.P FI f107.l0.A f107.l0.F
theorem f107.l1.ok:∀ n,HY 107 QL 1 n (f107.O n):=Ha f107.l1.P FI f107.l1.A f107.l1.F
theorem f107.ok:CT 107 f107.P CO f107.A f107.F:=Ce QL f107.O [An QL 0,An QL 1] (fun n=>(.cons (f107.l0.ok n) (.cons (f107.l1.ok n) .nil)))
def f107.w:BX E:=Bm 107 f107.P CO f107.A f107.F f107.ok
def f60:Nat→Nat→List T→Nat→List T→Int→Int→Option (SR)
 | 0,_,_,_,_,_,_=>none
 | n+1,n1,l2,n3,l4,i5,i6 =>
   bd (f105 n n1 l2 n3 l4) fun r7 =>
   let b8:=r7
   br (!b8) (
    some (0,[],0,[],false)) (
    bd (f106 n i5 (0:Int) (IntKind.i64.wrap ((n1:Int) - (1:Int)))) fun r9 =>
    let b10:=r9
    br (!b10) (
     some (0,[],0,[],false)) (
     gd ((decide ((0≤i5)∧(i5<(n1:Int))))&&(Ag [(.int .i64),(.int .i64),.lst] l2 (((Int.toNat i5) * 3)+0))) (
     bd (f106 n i6 (1:Int) (IntKind.i64.wrap ((((EF l2 (((((Int.toNat i5) * 3)+0)+1)+1)):Nat):Int) - (1:Int)))) fun r11 =>
     let b12:=r11
     br (!b12) (
      some (0,[],0,[],false)) (
      bd (f107 n n1 l2 n3 l4) fun r13 =>
      let n14:=r13.1
      let l15:=r13.2.1
      let n16:=r13.2.2.1
      let l17:=r13.2.2.2
      gd (decide ((0≤i5)∧(i5<(n14:Int)))) (
      gd (Ag [(.int .i64),(.int .i64),.lst] l15 (((Int.toNat i5) * 3)+0)) (
      gd ((Ag [(.int .i64),(.int .i64),.lst] l15 (((Int.toNat i5) * 3)+0))&&true) (
      let l18:=(AT l15 (((Int.toNat i5) * 3)+0) [(T.int .i64 (DA l15 (((Int.toNat i5) * 3)+0))),(T.int .i64 (DA l15 ((((Int.toNat i5) * 3)+0)+1))),T.nil])
      let i19:=(DA l15 (((Int.toNat i5) * 3)+0))
      let i20:=(DA l15 ((((Int.toNat i5) * 3)+0)+1))
      let n21:=(EF l15 (((((Int.toNat i5) * 3)+0)+1)+1))
      let l22:=(EN l15 (((((Int.toNat i5) * 3)+0)+1)+1))
      gd (decide ((0≤(0:Int))∧((0≤i6)∧(i6≤(n21:Int))))) (
      bd (f119 n ((Int.toNat i6) - 0) (List.take ((Int.toNat i6) - 0) (List.drop 0 l22))) fun r23 =>
      let n24:=r23.1
      let l25:=r23.2
      gd (decide ((0≤i6)∧((i6≤(n21:Int))∧((n21:Int)≤(n21:Int))))) (
      bd (f119 n (n21 - (Int.toNat i6)) (List.take (n21 - (Int.toNat i6)) (List.drop (Int.toNat i6) l22))) fun r26 =>
      let n27:=r26.1
      let l28:=r26.2
      let i29:=(IntKind.i64.wrap (i20+i6))
      gd (decide (((0:Int)≤(IntKind.i64.wrap (i5+(1:Int))))∧(((IntKind.i64.wrap (i5+(1:Int)))≤(n14:Int))∧((n14:Int)≤(n14:Int))))) (
      gd (Nat.ble (1+(n14 - (Int.toNat (IntKind.i64.wrap (i5+(1:Int)))))) 2147483648) (
      let l30:=(Cm [Pm.leaf,Pm.leaf,(Pm.sl Fl.own [Pm.leaf])] (Int.toNat (IntKind.i64.wrap (i5+(1:Int)))) (n14 - (Int.toNat (IntKind.i64.wrap (i5+(1:Int))))) l18)
      let n31:=(1+(n14 - (Int.toNat (IntKind.i64.wrap (i5+(1:Int))))))
      let l32:=((AT (reps 1 [(T.int .i64 (0:Int)),(T.int .i64 (0:Int)),(T.lst 0 [])]) 0 [(T.int .i64 i19),(T.int .i64 i29),(T.lst n27 l28)])++(List.take (((n14 - (Int.toNat (IntKind.i64.wrap (i5+(1:Int))))) * 3)+0) (List.drop (((Int.toNat (IntKind.i64.wrap (i5+(1:Int)))) * 3)+0) l18)))
      gd (decide ((0≤(0:Int))∧((0≤i5)∧(i5≤(n14:Int))))) (
      gd (Nat.ble (0+((Int.toNat i5) - 0)) 2147483648) (
      gd (Nat.ble ((0+((Int.toNat i5) - 0))+1) 2147483648) (
      gd (Nat.ble (((0+((Int.toNat i5) - 0))+1)+n31) 2147483648) (
      let n33:=(((0+((Int.toNat i5) - 0))+1)+n31)
      let l34:=((((reps 0 [(T.int .i64 (0:Int)),(T.int .i64 (0:Int)),(T.lst 0 [])])++(List.take ((((Int.toNat i5) - 0) * 3)+0) (List.drop 0 l30)))++(AT (reps 1 [(T.int .i64 (0:Int)),(T.int .i64 (0:Int)),(T.lst 0 [])]) 0 [(T.int .i64 i19),(T.int .i64 i20),(T.lst n24 l25)]))++l32)
      bd (f105 n n33 l34 n16 l17) fun r35 =>
      let b36:=r35
      br (!b36) (
       some (0,[],0,[],false)) (
       some (n33,l34,n16,l17,true)))))))))))))))))
def TN:EY (SR) where
 pk:=fun (a0,a1,a2,a3,a4)=>[.lst a0 a1,.lst a2 a3,.bool a4]
 up:=fun ls=>match ls with
  | [.lst a0 a1,.lst a2 a3,.bool a4]=>some (a0,a1,a2,a3,a4)
  | _=>none
def f60.P:List Ae:=[MD,Bs,Bs]
def f60.A:Ak (SR):=.one ⟨[TL,CR],[none,none,none]⟩ TN
def f60.F (n:Nat) (v:RK):=let (a,b,c,d,e,f):=v;f60 n a b c d e f
def f60.O (n:Nat):BZ:=AU (E:=E) [f106.w,f105.w,f119.w,f107.w] [] n
theorem f60.ok:CT 60 f60.P Dv f60.A f60.F:=Ce Yz f60.O
def f60.w:BX E:=Bm 60 f60.P Dv f60.A f60.F f60.ok
def f87:Nat→Int→Option (Int)
 | 0,_=>none
 | n+1,i1 =>
   some i1
def f87.P:List Ae:=[Bs]
def f87.A:Ak (Int):=.one ⟨[FA],[none]⟩ CQ
def f87.F (n:Nat) (v:Int):=f87 n v
def f87.O (n:Nat):BZ:=AU (E:=E) [] [] n
theorem f87.ok:CT 87 f87.P CQ f87.A f87.F:=Ce Y4 f87.O
def f87.w:BX E:=Bm 87 f87.P CQ f87.A f87.F f87.ok
def f67:Nat→Int→Int→Int→Option (Bool)
 | 0,_,_,_=>none
 | n+1,i1,i2,i3 =>
   br (decide (i2≤i1)) (
    some (decide (i1≤i3))) (
    some false)
def f67.P:List Ae:=[Bs,Bs,Bs]
def f67.A:Ak (Bool):=.one ⟨[CR],[none,none,none]⟩ Bj
def f67.F (n:Nat) (v:Int × Int × Int):=f67 n v.1 v.2.1 v.2.2
def f67.O (n:Nat):BZ:=AU (E:=E) [] [] n
theorem f67.ok:CT 67 f67.P NQ f67.A f67.F:=Ce Yf f67.O
def f67.w:BX E:=Bm 67 f67.P NQ f67.A f67.F f67.ok
def f89:Nat→Int→Option (Bool)
 | 0,_=>none
 | n+1,i1 =>
   bd (f67 n i1 (1:Int) (8:Int)) fun r2 =>
   let b3:=r2
   some b3
def f89.P:List Ae:=[Bs]
def f89.A:Ak (Bool):=.one ⟨[CR],[none]⟩ Bj
def f89.F (n:Nat) (v:Int):=f89 n v
def f89.O (n:Nat):BZ:=AU (E:=E) [f67.w] [] n
theorem f89.ok:CT 89 f89.P CQ f89.A f89.F:=Ce ZC f89.O
def f89.w:BX E:=Bm 89 f89.P CQ f89.A f89.F f89.ok
def f136:Nat→Int→Int→Nat→List T→Int→Int→Int→Option (Bool)
 | 0,_,_,_,_,_,_,_=>none
 | n+1,i1,i2,n3,l4,i5,i6,i7 =>
   bd (f67 n i2 i5 i6) fun r8 =>
   let b9:=r8
   br b9 (
    some ((n3:Int)==i7)) (
    some false)
def Ml:EY (Wq) where
 pk:=fun (a0,a1,a2,a3,a4,a5,a6)=>[.int a0,.int a1,.lst a2 a3,.int a4,.int a5,.int a6]
 up:=fun ls=>match ls with
  | [.int a0,.int a1,.lst a2 a3,.int a4,.int a5,.int a6]=>some (a0,a1,a2,a3,a4,a5,a6)
  | _=>none
def f136.P:List Ae:=[MB,Bs,Bs,Bs]
def f136.A:Ak (Bool):=.one ⟨[CR],[none,none,none,none]⟩ Bj
def f136.F (n:Nat) (v:Wq):=let (a,b,c,d,e,f,g):=v;f136 n a b c d e f g
def f136.O (n:Nat):BZ:=AU (E:=E) [f67.w] [] n
theorem f136.ok:CT 136 f136.P Ml f136.A f136.F:=Ce Vj f136.O
def f136.w:BX E:=Bm 136 f136.P Ml f136.A f136.F f136.ok
def f174:Nat→Nat→Option (Bool)
 | 0,_=>none
 | n+1,x1 =>
   some (Pj .f32 (E8 .f32 x1 x1) 0)
def f174.P:List Ae:=[RE]
def f174.A:Ak (Bool):=.one ⟨[CR],[none]⟩ Bj
def f174.F (n:Nat) (v:Nat):=f174 n v
def f174.O (n:Nat):BZ:=AU (E:=E) [] [] n
theorem f174.ok:CT 174 f174.P KL f174.A f174.F:=Ce WB f174.O
def f174.w:BX E:=Bm 174 f174.P KL f174.A f174.F f174.ok
def f137:Nat→Nat→Option (Bool)
 | 0,_=>none
 | n+1,x1 =>
   bd (f174 n x1) fun r2 =>
   let b3:=r2
   br b3 (
    some (Qy .f32 x1 0)) (
    some false)
def f137.P:List Ae:=[RE]
def f137.A:Ak (Bool):=.one ⟨[CR],[none]⟩ Bj
def f137.F (n:Nat) (v:Nat):=f137 n v
def f137.O (n:Nat):BZ:=AU (E:=E) [f174.w] [] n
theorem f137.ok:CT 137 f137.P KL f137.A f137.F:=Ce V3 f137.O
def f137.w:BX E:=Bm 137 f137.P KL f137.A f137.F f137.ok
def f76:Nat→Int→Int→Nat→List T→Option (Bool)
 | 0,_,_,_,_=>none
 | n+1,i1,i2,n3,l4 =>
   br (i1==(0:Int)) (
    br (i1==(0:Int)) (
     bd (f136 n i1 i2 n3 l4 (0:Int) (0:Int) (1:Int)) fun r5 =>
     let b6:=r5
     some b6) (
     br (i1==(1:Int)) (
      bd (f136 n i1 i2 n3 l4 (0:Int) (0:Int) (5:Int)) fun r7 =>
      let b8:=r7
      some b8) (
      br (i1==(2:Int)) (
       bd (f136 n i1 i2 n3 l4 (1:Int) (32:Int) (2:Int)) fun r9 =>
       let b10:=r9
       some b10) (
       br (i1==(3:Int)) (
        bd (f136 n i1 i2 n3 l4 (0:Int) (0:Int) (4:Int)) fun r11 =>
        let b12:=r11
        some b12) (
        br (i1==(5:Int)) (
         bd (f136 n i1 i2 n3 l4 (0:Int) (0:Int) (0:Int)) fun r13 =>
         let b14:=r13
         some b14) (
         br (i1==(6:Int)) (
          bd (f136 n i1 i2 n3 l4 (0:Int) (32:Int) (2:Int)) fun r15 =>
          let b16:=r15
          br b16 (
           gd ((decide ((0≤(0:Int))∧((0:Int)<(n3:Int))))&&(Ag [(.flt .f32)] l4 0)) (
           bd (f137 n (JU l4 0)) fun r17 =>
           let b18:=r17
           some b18)) (
           some false)) (
          some false))))))) (
    br (i1==(4:Int)) (
     bd (f136 n i1 i2 n3 l4 (0:Int) (0:Int) (1:Int)) fun r19 =>
     let b20:=r19
     some b20) (
     br (i1==(1:Int)) (
      bd (f136 n i1 i2 n3 l4 (0:Int) (0:Int) (5:Int)) fun r21 =>
      let b22:=r21
      some b22) (
      br (i1==(2:Int)) (
       bd (f136 n i1 i2 n3 l4 (1:Int) (32:Int) (2:Int)) fun r23 =>
       let b24:=r23
       some b24) (
       br (i1==(3:Int)) (
        bd (f136 n i1 i2 n3 l4 (0:Int) (0:Int) (4:Int)) fun r25 =>
        let b26:=r25
        some b26) (
        br (i1==(5:Int)) (
         bd (f136 n i1 i2 n3 l4 (0:Int) (0:Int) (0:Int)) fun r27 =>
         let b28:=r27
         some b28) (
         br (i1==(6:Int)) (
          bd (f136 n i1 i2 n3 l4 (0:Int) (32:Int) (2:Int)) fun r29 =>
          let b30:=r29
          br b30 (
           gd ((decide ((0≤(0:Int))∧((0:Int)<(n3:Int))))&&(Ag [(.flt .f32)] l4 0)) (
           bd (f137 n (JU l4 0)) fun r31 =>
           let b32:=r31
           some b32)) (
           some false)) (
          some false)))))))
def f76.P:List Ae:=[MB]
def f76.A:Ak (Bool):=.one ⟨[CR],[none]⟩ Bj
def f76.F (n:Nat) (v:KK):=let (a,b,c,d):=v;f76 n a b c d
def f76.O (n:Nat):BZ:=AU (E:=E) [f136.w,f137.w] [] n
theorem f76.ok:CT 76 f76.P Do f76.A f76.F:=Ce Yx f76.O
def f76.w:BX E:=Bm 76 f76.P Do f76.A f76.F f76.ok
def f23.l0 (n:Nat):Nat→Nat→List T→Nat→List T→Int→Int→Option ((Bool) ⊕ (Unit))
 | 0,_,_,_,_,_,_=>none
 | m+1,n1,l2,n3,l4,i5,i6 =>
   br (decide (i6<i5)) (
    gd ((decide ((0≤i6)∧(i6<(n3:Int))))&&(Ag [(.int .i64),(.int .i64),.lst] l4 (((Int.toNat i6) * 3)+0))) (
    let i7:=(DA l4 (((Int.toNat i6) * 3)+0))
    let i8:=(DA l4 ((((Int.toNat i6) * 3)+0)+1))
    let n9:=(EF l4 (((((Int.toNat i6) * 3)+0)+1)+1))
    let l10:=(EN l4 (((((Int.toNat i6) * 3)+0)+1)+1))
    bd (f76 n i7 i8 n9 l10) fun r11 =>
    let b12:=r11
    br (!b12) (
     some (Sum.inl false)) (
     f23.l0 n m n1 l2 n3 l4 i5 (IntKind.i64.wrap (i6+(1:Int)))))) (
    some (Sum.inr ()))
def f23:Nat→Nat→List T→Option (Bool)
 | 0,_,_=>none
 | n+1,n1,l2 =>
   br (decide ((n1:Int)>(8:Int))) (
    some false) (
    bd (f23.l0 n n n1 l2 n1 l2 (n1:Int) (0:Int)) fun r3 =>
    sm r3 (fun u4 =>
     let b5:=u4
     some b5) (fun u6 =>
     some true))
def f23.l0.P:AS:=⟨[(0,GQ),(8,GQ),(9,Ar),(10,Ar)],0⟩
def f23.l0.A:Fa ((Bool) ⊕ (Unit)):=.or (.one .ret ⟨[(2,Ke)],0⟩ Bj) (.one (.exit 0) ⟨[(2,.dead)],0⟩ sg)
def f23.l0.F (n m:Nat) (v:RK):=let (a,b,c,d,e,f):=v;f23.l0 n m a b c d e f
def f23.l0.W (n:Nat):Gi:=.of 64 f23.l0.P Dv f23.l0.A (f23.l0.F n n)
def f23.P:List Ae:=[Io]
def f23.A:Ak (Bool):=.one ⟨[CR],[none]⟩ Bj
def f23.F (n:Nat) (v:Nat × List T):=f23 n v.1 v.2
def f23.O (n:Nat):BZ:=AU (E:=E) [f76.w] [f23.l0.W n] n
theorem f23.l0.ok:∀ n,HY 23 c23 0 n (f23.O n):=Ha f23.l0.P Dv f23.l0.A f23.l0.F
theorem f23.ok:CT 23 f23.P Bo f23.A f23.F:=Ce c23 f23.O [An c23 0] (fun n=>(.cons (f23.l0.ok n) .nil))
def f23.w:BX E:=Bm 23 f23.P Bo f23.A f23.F f23.ok
def f143:Nat→Int→Option (Bool)
 | 0,_=>none
 | n+1,i1 =>
   bd (f67 n i1 (-2000:Int) (2000:Int)) fun r2 =>
   let b3:=r2
   some b3
def f143.P:List Ae:=[Bs]
def f143.A:Ak (Bool):=.one ⟨[CR],[none]⟩ Bj
def f143.F (n:Nat) (v:Int):=f143 n v
def f143.O (n:Nat):BZ:=AU (E:=E) [f67.w] [] n
theorem f143.ok:CT 143 f143.P CQ f143.A f143.F:=Ce Wb f143.O
def f143.w:BX E:=Bm 143 f143.P CQ f143.A f143.F f143.ok
def f144:Nat→Nat→Option (Bool)
 | 0,_=>none
 | n+1,x1 =>
   br (Su .f32 x1 0) (
    some (UE .f32 x1 1065353216)) (
    some false)
def f144.P:List Ae:=[RE]
def f144.A:Ak (Bool):=.one ⟨[CR],[none]⟩ Bj
def f144.F (n:Nat) (v:Nat):=f144 n v
def f144.O (n:Nat):BZ:=AU (E:=E) [] [] n
theorem f144.ok:CT 144 f144.P KL f144.A f144.F:=Ce WF f144.O
def f144.w:BX E:=Bm 144 f144.P KL f144.A f144.F f144.ok
def f101.l0 (n:Nat):Nat→Nat→List T→Nat→List T→Nat→List T→Int→Int→Option ((Bool) ⊕ (GR))
 | 0,_,_,_,_,_,_,_,_=>none
 | m+1,n1,l2,n3,l4,n5,l6,i7,i8 =>
   br (decide (i8<i7)) (
    gd ((decide ((0≤i8)∧(i8<(n5:Int))))&&(Ag [.lst,(.int .i64),(.flt .f32),.bool,.bool] l6 (((Int.toNat i8) * 5)+0))) (
    let n9:=(EF l6 (((Int.toNat i8) * 5)+0))
    let l10:=(EN l6 (((Int.toNat i8) * 5)+0))
    let i11:=(DA l6 ((((Int.toNat i8) * 5)+0)+1))
    let x12:=(JU l6 (((((Int.toNat i8) * 5)+0)+1)+1))
    let b13:=(KX l6 ((((((Int.toNat i8) * 5)+0)+1)+1)+1))
    let b14:=(KX l6 (((((((Int.toNat i8) * 5)+0)+1)+1)+1)+1))
    bd (f23 n n9 l10) fun r15 =>
    let b16:=r15
    br (!b16) (
     some (Sum.inl false)) (
     bd (f143 n i11) fun r17 =>
     let b18:=r17
     br (!b18) (
      some (Sum.inl false)) (
      bd (f144 n x12) fun r19 =>
      let b20:=r19
      br (!b20) (
       some (Sum.inl false)) (
       f101.l0 n m n1 l2 n3 l4 n5 l6 i7 (IntKind.i64.wrap (i8+(1:Int)))))))) (
    some (Sum.inr (n1,l2,n3,l4)))
def f83:Nat→Int→Int→Option (Bool)
 | 0,_,_=>none
 | n+1,i1,i2 =>
   bd (f67 n i1 (0:Int) (IntKind.i64.wrap (i2 - (1:Int)))) fun r3 =>
   let b4:=r3
   some b4
def f83.P:List Ae:=[Bs,Bs]
def f83.A:Ak (Bool):=.one ⟨[CR],[none,none]⟩ Bj
def f83.F (n:Nat) (v:Int × Int):=f83 n v.1 v.2
def f83.O (n:Nat):BZ:=AU (E:=E) [f67.w] [] n
theorem f83.ok:CT 83 f83.P OY f83.A f83.F:=Ce Yc f83.O
def f83.w:BX E:=Bm 83 f83.P OY f83.A f83.F f83.ok
def f81:Nat→Int→Option (Bool)
 | 0,_=>none
 | n+1,i1 =>
   bd (f67 n i1 (0:Int) (256:Int)) fun r2 =>
   let b3:=r2
   some b3
def f81.P:List Ae:=[Bs]
def f81.A:Ak (Bool):=.one ⟨[CR],[none]⟩ Bj
def f81.F (n:Nat) (v:Int):=f81 n v
def f81.O (n:Nat):BZ:=AU (E:=E) [f67.w] [] n
theorem f81.ok:CT 81 f81.P CQ f81.A f81.F:=Ce ZF f81.O
def f81.w:BX E:=Bm 81 f81.P CQ f81.A f81.F f81.ok
def f66:Nat→Nat→List T→Option (Bool)
 | 0,_,_=>none
 | n+1,n1,l2 =>
   some (decide ((n1:Int)≤(256:Int)))
def f66.P:List Ae:=[M8]
def f66.A:Ak (Bool):=.one ⟨[CR],[none]⟩ Bj
def f66.F (n:Nat) (v:Nat × List T):=f66 n v.1 v.2
def f66.O (n:Nat):BZ:=AU (E:=E) [] [] n
theorem f66.ok:CT 66 f66.P Bo f66.A f66.F:=Ce ZM f66.O
def f66.w:BX E:=Bm 66 f66.P Bo f66.A f66.F f66.ok
def f101.l1 (n:Nat):Nat→Nat→List T→Nat→List T→Nat→List T→Int→Int→Option ((Bool) ⊕ (Unit))
 | 0,_,_,_,_,_,_,_,_=>none
 | m+1,n1,l2,n3,l4,n5,l6,i7,i8 =>
   br (decide (i8<i7)) (
    gd ((decide ((0≤i8)∧(i8<(n5:Int))))&&(Ag [(.int .i64),(.int .i64),.lst] l6 (((Int.toNat i8) * 3)+0))) (
    let i9:=(DA l6 (((Int.toNat i8) * 3)+0))
    let i10:=(DA l6 ((((Int.toNat i8) * 3)+0)+1))
    let n11:=(EF l6 (((((Int.toNat i8) * 3)+0)+1)+1))
    let l12:=(EN l6 (((((Int.toNat i8) * 3)+0)+1)+1))
    bd (f83 n i9 (n3:Int)) fun r13 =>
    let b14:=r13
    br (!b14) (
     some (Sum.inl false)) (
     bd (f81 n i10) fun r15 =>
     let b16:=r15
     br (!b16) (
      some (Sum.inl false)) (
      bd (f66 n n11 l12) fun r17 =>
      let b18:=r17
      br (!b18) (
       some (Sum.inl false)) (
       f101.l1 n m n1 l2 n3 l4 n5 l6 i7 (IntKind.i64.wrap (i8+(1:Int)))))))) (
    some (Sum.inr ()))
def f101:Nat→Nat→List T→Nat→List T→Option (Bool)
 | 0,_,_,_,_=>none
 | n+1,n1,l2,n3,l4 =>
   bd (f87 n (n3:Int)) fun r5 =>
   let i6:=r5
   bd (f89 n i6) fun r7 =>
   let b8:=r7
   br (!b8) (
    some false) (
    br (decide ((n1:Int)>(12:Int))) (
     some false) (
     bd (f101.l0 n n n1 l2 n3 l4 n3 l4 (n3:Int) (0:Int)) fun r9 =>
     sm r9 (fun u10 =>
      let b11:=u10
      some b11) (fun u12 =>
      let n13:=u12.1
      let l14:=u12.2.1
      let n15:=u12.2.2.1
      let l16:=u12.2.2.2
      bd (f101.l1 n n n13 l14 n15 l16 n13 l14 (n13:Int) (0:Int)) fun r17 =>
      sm r17 (fun u18 =>
       let b19:=u18
       some b19) (fun u20 =>
       some true))))
def F3:EY (Ya) where
 pk:=fun (a0,a1,a2,a3,a4,a5,a6,a7)=>[.lst a0 a1,.lst a2 a3,.lst a4 a5,.int a6,.int a7]
 up:=fun ls=>match ls with
  | [.lst a0 a1,.lst a2 a3,.lst a4 a5,.int a6,.int a7]=>some (a0,a1,a2,a3,a4,a5,a6,a7)
  | _=>none
def f101.l0.P:AS:=⟨[(1,RX),(20,P6),(21,Ar),(22,Ar)],0⟩
def f101.l0.A:Fa ((Bool) ⊕ (GR)):=.or (.one .ret ⟨[(1,.dead),(2,Ke),(69,.dead)],0⟩ Bj) (.one (.exit 0) ⟨[(1,RX),(2,.dead),(69,.dead)],0⟩ CO)
def f101.l0.F (n m:Nat) (v:Ya):=let (a,b,c,d,e,f,g,h):=v;f101.l0 n m a b c d e f g h
def f101.l0.W (n:Nat):Gi:=.of 64 f101.l0.P F3 f101.l0.A (f101.l0.F n n)
def f101.l1.P:AS:=⟨[(1,RX),(44,GQ),(45,Ar),(46,Ar)],0⟩
def f101.l1.A:Fa ((Bool) ⊕ (Unit)):=.or (.one .ret ⟨[(2,Ke)],0⟩ Bj) (.one (.exit 2) ⟨[(2,.dead)],0⟩ sg)
def f101.l1.F (n m:Nat) (v:Ya):=let (a,b,c,d,e,f,g,h):=v;f101.l1 n m a b c d e f g h
def f101.l1.W (n:Nat):Gi:=.of 160 f101.l1.P F3 f101.l1.A (f101.l1.F n n)
def f101.P:List Ae:=[MD]
def f101.A:Ak (Bool):=.one ⟨[CR],[none]⟩ Bj
def f101.F (n:Nat) (v:GR):=let (a,b,c,d):=v;f101 n a b c d
def f101.O (n:Nat):BZ:=AU (E:=E) [f87.w,f89.w,f23.w,f143.w,f144.w,f83.w,f81.w,f66.w] [f101.l0.W n,f101.l1.W n] n
theorem f101.l0.ok:∀ n,HY 101 QA 0 n (f101.O n):=Ha f101.l0.P F3 f101.l0.A f101.l0.F
theorem f101.l1.ok:∀ n,HY 101 QA 1 n (f101.O n):=Ha f101.l1.P F3 f101.l1.A f101.l1.F
theorem f101.ok:CT 101 f101.P CO f101.A f101.F:=Ce QA f101.O [An QA 0,An QA 1] (fun n=>(.cons (f101.l0.ok n) (.cons (f101.l1.ok n) .nil)))
def f101.w:BX E:=Bm 101 f101.P CO f101.A f101.F f101.ok
def f84:Nat→Nat→List T→Option (Nat × List T)
 | 0,_,_=>none
 | n+1,n1,l2 =>
   gd (Nat.ble (0+n1) 2147483648) (
   some ((0+n1),((reps 0 [(T.flt .f32 0)])++l2)))
def f84.P:List Ae:=[M8]
def f84.A:Ak (Nat × List T):=.one ⟨[RF],[none]⟩ Bo
def f84.F (n:Nat) (v:Nat × List T):=f84 n v.1 v.2
def f84.O (n:Nat):BZ:=AU (E:=E) [] [] n
theorem f84.ok:CT 84 f84.P Bo f84.A f84.F:=Ce Y2 f84.O
def f84.w:BX E:=Bm 84 f84.P Bo f84.A f84.F f84.ok
def f103.l0 (n:Nat):Nat→Nat→List T→Nat→List T→Nat→List T→Nat→List T→Nat→List T→Nat→List T→Nat→List T→Int→Int→Option (XQ)
 | 0,_,_,_,_,_,_,_,_,_,_,_,_,_,_,_,_=>none
 | m+1,n1,l2,n3,l4,n5,l6,n7,l8,n9,l10,n11,l12,n13,l14,i15,i16 =>
   br (decide (i16<i15)) (
    gd ((decide ((0≤i16)∧(i16<(n13:Int))))&&(Ag [(.int .i64),(.int .i64),.lst] l14 (((Int.toNat i16) * 3)+0))) (
    let i17:=(DA l14 (((Int.toNat i16) * 3)+0))
    let i18:=(DA l14 ((((Int.toNat i16) * 3)+0)+1))
    let n19:=(EF l14 (((((Int.toNat i16) * 3)+0)+1)+1))
    let l20:=(EN l14 (((((Int.toNat i16) * 3)+0)+1)+1))
    bd (f84 n n19 l20) fun r21 =>
    let n22:=r21.1
    let l23:=r21.2
    gd (Nat.ble (n9+1) 2147483648) (
    let n24:=(n9+1)
    let l25:=(l10++(AT (reps 1 [(T.int .i64 (0:Int)),(T.int .i64 (0:Int)),(T.lst 0 [])]) 0 [(T.int .i64 i17),(T.int .i64 i18),(T.lst n22 l23)]))
    f103.l0 n m n1 l2 n3 l4 n5 l6 n7 l8 n24 l25 n11 l12 n13 l14 i15 (IntKind.i64.wrap (i16+(1:Int)))))) (
    some (n1,l2,n3,l4,n5,l6,n7,l8,n9,l10,n11,l12))
termination_by structural x=>x
def f78.l0 (n:Nat):Nat→Nat→List T→Nat→List T→Nat→List T→Int→Int→Option (Nat × List T)
 | 0,_,_,_,_,_,_,_,_=>none
 | m+1,n1,l2,n3,l4,n5,l6,i7,i8 =>
   br (decide (i8<i7)) (
    gd ((decide ((0≤i8)∧(i8<(n5:Int))))&&(Ag [(.int .i64),(.int .i64),.lst] l6 (((Int.toNat i8) * 3)+0))) (
    let i9:=(DA l6 (((Int.toNat i8) * 3)+0))
    let i10:=(DA l6 ((((Int.toNat i8) * 3)+0)+1))
    let n11:=(EF l6 (((((Int.toNat i8) * 3)+0)+1)+1))
    let l12:=(EN l6 (((((Int.toNat i8) * 3)+0)+1)+1))
    bd (f84 n n11 l12) fun r13 =>
    let n14:=r13.1
    let l15:=r13.2
    gd (Nat.ble (n3+1) 2147483648) (
    let n16:=(n3+1)
    let l17:=(l4++(AT (reps 1 [(T.int .i64 (0:Int)),(T.int .i64 (0:Int)),(T.lst 0 [])]) 0 [(T.int .i64 i9),(T.int .i64 i10),(T.lst n14 l15)]))
    f78.l0 n m n1 l2 n16 l17 n5 l6 i7 (IntKind.i64.wrap (i8+(1:Int)))))) (
    some (n3,l4))
def f78:Nat→Nat→List T→Option (Nat × List T)
 | 0,_,_=>none
 | n+1,n1,l2 =>
   bd (f78.l0 n n n1 l2 0 [] n1 l2 (n1:Int) (0:Int)) fun r3 =>
   let n4:=r3.1
   let l5:=r3.2
   some (n4,l5)
def f78.l0.P:AS:=⟨[(0,GQ),(3,Pf),(6,GQ),(7,Ar),(8,Ar)],0⟩
def f78.l0.A:Fa (Nat × List T):=.one (.exit 0) ⟨[(3,Pf)],0⟩ Bo
def f78.l0.F (n m:Nat) (v:Ya):=let (a,b,c,d,e,f,g,h):=v;f78.l0 n m a b c d e f g h
def f78.l0.W (n:Nat):Gi:=.of 48 f78.l0.P F3 f78.l0.A (f78.l0.F n n)
def f78.P:List Ae:=[Io]
def f78.A:Ak (Nat × List T):=.one ⟨[U0],[none]⟩ Bo
def f78.F (n:Nat) (v:Nat × List T):=f78 n v.1 v.2
def f78.O (n:Nat):BZ:=AU (E:=E) [f84.w] [f78.l0.W n] n
theorem f78.l0.ok:∀ n,HY 78 W4 0 n (f78.O n):=Ha f78.l0.P F3 f78.l0.A f78.l0.F
theorem f78.ok:CT 78 f78.P Bo f78.A f78.F:=Ce W4 f78.O [An W4 0] (fun n=>(.cons (f78.l0.ok n) .nil))
def f78.w:BX E:=Bm 78 f78.P Bo f78.A f78.F f78.ok
def f103.l1 (n:Nat):Nat→Nat→List T→Nat→List T→Nat→List T→Nat→List T→Nat→List T→Nat→List T→Nat→List T→Int→Int→Option (Wf)
 | 0,_,_,_,_,_,_,_,_,_,_,_,_,_,_,_,_=>none
 | m+1,n1,l2,n3,l4,n5,l6,n7,l8,n9,l10,n11,l12,n13,l14,i15,i16 =>
   br (decide (i16<i15)) (
    gd ((decide ((0≤i16)∧(i16<(n13:Int))))&&(Ag [.lst,(.int .i64),(.flt .f32),.bool,.bool] l14 (((Int.toNat i16) * 5)+0))) (
    let n17:=(EF l14 (((Int.toNat i16) * 5)+0))
    let l18:=(EN l14 (((Int.toNat i16) * 5)+0))
    let i19:=(DA l14 ((((Int.toNat i16) * 5)+0)+1))
    let x20:=(JU l14 (((((Int.toNat i16) * 5)+0)+1)+1))
    let b21:=(KX l14 ((((((Int.toNat i16) * 5)+0)+1)+1)+1))
    let b22:=(KX l14 (((((((Int.toNat i16) * 5)+0)+1)+1)+1)+1))
    bd (f78 n n17 l18) fun r23 =>
    let n24:=r23.1
    let l25:=r23.2
    gd (Nat.ble (n11+1) 2147483648) (
    let n26:=(n11+1)
    let l27:=(l12++(AT (reps 1 [(T.lst 0 []),(T.int .i64 (0:Int)),(T.flt .f32 0),(T.bool false),(T.bool false)]) 0 [(T.lst n24 l25),(T.int .i64 i19),(T.flt .f32 x20),(T.bool b21),(T.bool b22)]))
    f103.l1 n m n1 l2 n3 l4 n5 l6 n7 l8 n9 l10 n26 l27 n13 l14 i15 (IntKind.i64.wrap (i16+(1:Int)))))) (
    some (n5,l6,n7,l8,n9,l10,n11,l12))
termination_by structural x=>x
def f103:Nat→Nat→List T→Nat→List T→Option (GR)
 | 0,_,_,_,_=>none
 | n+1,n1,l2,n3,l4 =>
   bd (f103.l0 n n n1 l2 n3 l4 0 [] 0 [] 0 [] 0 [] n1 l2 (n1:Int) (0:Int)) fun r5 =>
   let n6:=r5.1
   let l7:=r5.2.1
   let n8:=r5.2.2.1
   let l9:=r5.2.2.2.1
   let n10:=r5.2.2.2.2.1
   let l11:=r5.2.2.2.2.2.1
   let n12:=r5.2.2.2.2.2.2.1
   let l13:=r5.2.2.2.2.2.2.2.1
   let n14:=r5.2.2.2.2.2.2.2.2.1
   let l15:=r5.2.2.2.2.2.2.2.2.2.1
   let n16:=r5.2.2.2.2.2.2.2.2.2.2.1
   let l17:=r5.2.2.2.2.2.2.2.2.2.2.2
   bd (f103.l1 n n n6 l7 n8 l9 n10 l11 n12 l13 n14 l15 n16 l17 n8 l9 (n8:Int) (0:Int)) fun r18 =>
   let n23:=r18.2.2.2.2.1
   let l24:=r18.2.2.2.2.2.1
   let n25:=r18.2.2.2.2.2.2.1
   let l26:=r18.2.2.2.2.2.2.2
   some (n23,l24,n25,l26)
def EU:EY (Yj) where
 pk:=fun (a0,a1,a2,a3,a4,a5,a6,a7,a8,a9,a10,a11,a12,a13,a14,a15)=>[.lst a0 a1,.lst a2 a3,.lst a4 a5,.lst a6 a7,.lst a8 a9,.lst a10 a11,.lst a12 a13,.int a14,.int a15]
 up:=fun ls=>match ls with
  | [.lst a0 a1,.lst a2 a3,.lst a4 a5,.lst a6 a7,.lst a8 a9,.lst a10 a11,.lst a12 a13,.int a14,.int a15]=>some (a0,a1,a2,a3,a4,a5,a6,a7,a8,a9,a10,a11,a12,a13,a14,a15)
  | _=>none
def f103.l0.P:AS:=⟨[(1,RX),(2,HW),(3,HW),(9,GQ),(10,Ar),(11,Ar)],0⟩
def f103.l0.A:Fa (XQ):=.one (.exit 0) ⟨[(1,RX),(2,HW),(3,HW),(43,.dead)],0⟩ Mv
def f103.l0.F (n m:Nat) (v:Yj):=let (a,b,c,d,e,f,g,h,i,j,k,l,o,p,q,r):=v;f103.l0 n m a b c d e f g h i j k l o p q r
def f103.l0.W (n:Nat):Gi:=.of 48 f103.l0.P EU f103.l0.A (f103.l0.F n n)
def f103.l1.P:AS:=⟨[(1,RX),(2,HW),(3,HW),(27,P6),(28,Ar),(29,Ar)],0⟩
def f103.l1.A:Fa (Wf):=.one (.exit 2) ⟨[(2,HW),(3,HW)],0⟩ KZ
def f103.l1.F (n m:Nat) (v:Yj):=let (a,b,c,d,e,f,g,h,i,j,k,l,o,p,q,r):=v;f103.l1 n m a b c d e f g h i j k l o p q r
def f103.l1.W (n:Nat):Gi:=.of 144 f103.l1.P EU f103.l1.A (f103.l1.F n n)
def f103.P:List Ae:=[MD]
def f103.A:Ak (GR):=.one ⟨[TL],[none]⟩ CO
def f103.F (n:Nat) (v:GR):=let (a,b,c,d):=v;f103 n a b c d
def f103.O (n:Nat):BZ:=AU (E:=E) [f84.w,f78.w] [f103.l0.W n,f103.l1.W n] n
theorem f103.l0.ok:∀ n,HY 103 P4 0 n (f103.O n):=Ha f103.l0.P EU f103.l0.A f103.l0.F
theorem f103.l1.ok:∀ n,HY 103 P4 1 n (f103.O n):=Ha f103.l1.P EU f103.l1.A f103.l1.F
theorem f103.ok:CT 103 f103.P CO f103.A f103.F:=Ce P4 f103.O [An P4 0,An P4 1] (fun n=>(.cons (f103.l0.ok n) (.cons (f103.l1.ok n) .nil)))
def f103.w:BX E:=Bm 103 f103.P CO f103.A f103.F f103.ok
def f104:Nat→Nat→List T→Nat→List T→Option ((Xd) ⊕ (Xd))
 | 0,_,_,_,_=>none
 | n+1,n1,l2,n3,l4 =>
   bd (f101 n n1 l2 n3 l4) fun r5 =>
   let b6:=r5
   br (!b6) (
    some (Sum.inl (0,[],0,[],false,n1,l2,n3,l4))) (
    some (Sum.inr (n1,l2,n3,l4,true,n1,l2,n3,l4)))
def PL:EY (Xd) where
 pk:=fun (a0,a1,a2,a3,a4,a5,a6,a7,a8)=>[.lst a0 a1,.lst a2 a3,.bool a4,.lst a5 a6,.lst a7 a8]
 up:=fun ls=>match ls with
  | [.lst a0 a1,.lst a2 a3,.bool a4,.lst a5 a6,.lst a7 a8]=>some (a0,a1,a2,a3,a4,a5,a6,a7,a8)
  | _=>none
def f104.P:List Ae:=[⟨.io,TL⟩]
def f104.A:Ak ((Xd) ⊕ (Xd)):=.or (.one ⟨[TL,CR],[some TL]⟩ PL) (.one ⟨[TL,CR],[some ⟨true,[.dead,.dead],[.lst 0 [],.lst 0 []]⟩]⟩ PL)
def f104.F (n:Nat) (v:GR):=let (a,b,c,d):=v;f104 n a b c d
def f104.O (n:Nat):BZ:=AU (E:=E) [f101.w] [] n
theorem f104.ok:CT 104 f104.P CO f104.A f104.F:=Ce VF f104.O
def f104.w:BX E:=Bm 104 f104.P CO f104.A f104.F f104.ok
def f61:Nat→Nat→List T→Nat→List T→Int→Int→Option (SR)
 | 0,_,_,_,_,_,_=>none
 | n+1,n1,l2,n3,l4,i5,i6 =>
   bd (f101 n n1 l2 n3 l4) fun r7 =>
   let b8:=r7
   br (!b8) (
    some (0,[],0,[],false)) (
    bd (f83 n i5 (n1:Int)) fun r9 =>
    let b10:=r9
    br (!b10) (
     some (0,[],0,[],false)) (
     gd ((decide ((0≤i5)∧(i5<(n1:Int))))&&(Ag [(.int .i64),(.int .i64),.lst] l2 (((Int.toNat i5) * 3)+0))) (
     bd (f87 n (((EF l2 (((((Int.toNat i5) * 3)+0)+1)+1)):Nat):Int)) fun r11 =>
     let i12:=r11
     bd (f67 n i6 (1:Int) (IntKind.i64.wrap (i12 - (1:Int)))) fun r13 =>
     let b14:=r13
     br (!b14) (
      some (0,[],0,[],false)) (
      bd (f103 n n1 l2 n3 l4) fun r15 =>
      let n16:=r15.1
      let l17:=r15.2.1
      let n18:=r15.2.2.1
      let l19:=r15.2.2.2
      gd ((decide ((0≤i5)∧(i5<(n1:Int))))&&(Ag [(.int .i64),(.int .i64),.lst] l2 (((Int.toNat i5) * 3)+0))) (
      let i20:=(DA l2 (((Int.toNat i5) * 3)+0))
      let i21:=(DA l2 ((((Int.toNat i5) * 3)+0)+1))
      let n22:=(EF l2 (((((Int.toNat i5) * 3)+0)+1)+1))
      let l23:=(EN l2 (((((Int.toNat i5) * 3)+0)+1)+1))
      gd (decide ((0≤(0:Int))∧((0≤i6)∧(i6≤(n22:Int))))) (
      bd (f84 n ((Int.toNat i6) - 0) (List.take ((Int.toNat i6) - 0) (List.drop 0 l23))) fun r24 =>
      let n25:=r24.1
      let l26:=r24.2
      gd (decide ((0≤i5)∧(i5<(n16:Int)))) (
      gd (Nat.ble ((((Int.toNat i5) * 3)+2)+1) (List.length l17)) (
      let l27:=(AT l17 (((Int.toNat i5) * 3)+2) [(T.lst n25 l26)])
      gd (decide ((0≤i6)∧((i6≤(n22:Int))∧((n22:Int)≤(n22:Int))))) (
      bd (f84 n (n22 - (Int.toNat i6)) (List.take (n22 - (Int.toNat i6)) (List.drop (Int.toNat i6) l23))) fun r28 =>
      let n29:=r28.1
      let l30:=r28.2
      bd (ET 3 n n16 l27 (IntKind.i64.wrap (i5+(1:Int))) 1 (AT (reps 1 [(T.int .i64 (0:Int)),(T.int .i64 (0:Int)),(T.lst 0 [])]) 0 (AT (AT (AT [(T.int .i64 (0:Int)),(T.int .i64 (0:Int)),(T.lst 0 [])] 0 [(T.int .i64 i20)]) 1 [(T.int .i64 (IntKind.i64.wrap (i21+i6)))]) 2 [(T.lst n29 l30)]))) fun r31 =>
      let n32:=r31.1
      let l33:=r31.2.1
      bd (f104 n n32 l33 n18 l19) fun r38 =>
      sm r38 (fun u39 =>
       let n40:=u39.1
       let l41:=u39.2.1
       let n42:=u39.2.2.1
       let l43:=u39.2.2.2.1
       let b44:=u39.2.2.2.2.1
       let n45:=u39.2.2.2.2.2.1
       let l46:=u39.2.2.2.2.2.2.1
       let n47:=u39.2.2.2.2.2.2.2.1
       let l48:=u39.2.2.2.2.2.2.2.2
       some (n40,l41,n42,l43,b44)) (fun u49 =>
       let n50:=u49.1
       let l51:=u49.2.1
       let n52:=u49.2.2.1
       let l53:=u49.2.2.2.1
       let b54:=u49.2.2.2.2.1
       let n55:=u49.2.2.2.2.2.1
       let l56:=u49.2.2.2.2.2.2.1
       let n57:=u49.2.2.2.2.2.2.2.1
       let l58:=u49.2.2.2.2.2.2.2.2
       some (n50,l51,n52,l53,b54)))))))))))
def f61.P:List Ae:=[MD,Bs,Bs]
def f61.A:Ak (SR):=.one ⟨[TL,CR],[none,none,none]⟩ TN
def f61.F (n:Nat) (v:RK):=let (a,b,c,d,e,f):=v;f61 n a b c d e f
def f61.O (n:Nat):BZ:=AU (E:=E) [x120.w,f87.w,f67.w,f83.w,f101.w,f84.w,f103.w,f104.w] [] n
theorem f61.ok:CT 61 f61.P Dv f61.A f61.F:=Ce Y1 f61.O
def f61.w:BX E:=Bm 61 f61.P Dv f61.A f61.F f61.ok
def f185:Nat→Nat→Nat→Option (Bool)
 | 0,_,_=>none
 | n+1,x1,x2 =>
   br (SE .f64 x1 x1) (
    br (SE .f64 x1 x1) (
     some (SE .f64 x2 x2)) (
     some false)) (
    br (SE .f64 x2 x2) (
     br (SE .f64 x1 x1) (
      some (SE .f64 x2 x2)) (
      some false)) (
     br (Pj .f64 x1 0) (
      br (Pj .f64 x2 0) (
       some ((Qy .f64 (fdiv .f64 4607182418800017408 x1) 0)==(Qy .f64 (fdiv .f64 4607182418800017408 x2) 0))) (
       some (Pj .f64 x1 x2))) (
      some (Pj .f64 x1 x2))))
def Uu:EY (Nat × Nat) where
 pk:=fun (a0,a1)=>[.flt a0,.flt a1]
 up:=fun ls=>match ls with
  | [.flt a0,.flt a1]=>some (a0,a1)
  | _=>none
def f185.P:List Ae:=[⟨.val,⟨false,[.leaf],[.flt .f64 0]⟩⟩,⟨.val,⟨false,[.leaf],[.flt .f64 0]⟩⟩]
def f185.A:Ak (Bool):=.one ⟨[CR],[none,none]⟩ Bj
def f185.F (n:Nat) (v:Nat × Nat):=f185 n v.1 v.2
def f185.O (n:Nat):BZ:=AU (E:=E) [] [] n
theorem f185.ok:CT 185 f185.P Uu f185.A f185.F:=Ce WR f185.O
def f185.w:BX E:=Bm 185 f185.P Uu f185.A f185.F f185.ok
def f183.l0 (n:Nat):Nat→Nat→List T→Nat→List T→Int→Option ((Bool) ⊕ (Unit))
 | 0,_,_,_,_,_=>none
 | m+1,n1,l2,n3,l4,i5 =>
   br (decide (i5<(n1:Int))) (
    gd ((decide ((0≤i5)∧(i5<(n1:Int))))&&(Ag [(.flt .f32)] l2 (Int.toNat i5))) (
    bd ((CE .f32 (JU l2 (Int.toNat i5)) .f64)) fun y6 =>
    gd ((decide ((0≤i5)∧(i5<(n3:Int))))&&(Ag [(.flt .f32)] l4 (Int.toNat i5))) (
    bd ((CE .f32 (JU l4 (Int.toNat i5)) .f64)) fun y7 =>
    bd (f185 n y6 y7) fun r8 =>
    let b9:=r8
    br (!b9) (
     some (Sum.inl false)) (
     f183.l0 n m n1 l2 n3 l4 (IntKind.i64.wrap (i5+(1:Int))))))) (
    some (Sum.inr ()))
def f183:Nat→Nat→List T→Nat→List T→Option (Bool)
 | 0,_,_,_,_=>none
 | n+1,n1,l2,n3,l4 =>
   br ((n1:Int) != (n3:Int)) (
    some false) (
    bd (f183.l0 n n n1 l2 n3 l4 (0:Int)) fun r5 =>
    sm r5 (fun u6 =>
     let b7:=u6
     some b7) (fun u8 =>
     some true))
def f183.l0.P:AS:=⟨[(0,UM),(1,UM),(5,Ar)],0⟩
def f183.l0.A:Fa ((Bool) ⊕ (Unit)):=.or (.one .ret ⟨[(4,Ke)],0⟩ Bj) (.one (.exit 0) ⟨[(4,.dead)],0⟩ sg)
def f183.l0.F (n m:Nat) (v:Ii):=let (a,b,c,d,e):=v;f183.l0 n m a b c d e
def f183.l0.W (n:Nat):Gi:=.of 64 f183.l0.P BV f183.l0.A (f183.l0.F n n)
def f183.P:List Ae:=[M8,M8]
def f183.A:Ak (Bool):=.one ⟨[CR],[none,none]⟩ Bj
def f183.F (n:Nat) (v:GR):=let (a,b,c,d):=v;f183 n a b c d
def f183.O (n:Nat):BZ:=AU (E:=E) [f185.w] [f183.l0.W n] n
theorem f183.l0.ok:∀ n,HY 183 SF 0 n (f183.O n):=Ha f183.l0.P BV f183.l0.A f183.l0.F
theorem f183.ok:CT 183 f183.P CO f183.A f183.F:=Ce SF f183.O [An SF 0] (fun n=>(.cons (f183.l0.ok n) .nil))
def f183.w:BX E:=Bm 183 f183.P CO f183.A f183.F f183.ok
def f154:Nat→Int→Int→Nat→List T→Int→Int→Nat→List T→Option (Bool)
 | 0,_,_,_,_,_,_,_,_=>none
 | n+1,i1,i2,n3,l4,i5,i6,n7,l8 =>
   br (i1 != i5) (
    some false) (
    br (i2 != i6) (
     some false) (
     bd (f183 n n3 l4 n7 l8) fun r9 =>
     let b10:=r9
     br (!b10) (
      some false) (
      some true)))
def HF:EY (ZI) where
 pk:=fun (a0,a1,a2,a3,a4,a5,a6,a7)=>[.int a0,.int a1,.lst a2 a3,.int a4,.int a5,.lst a6 a7]
 up:=fun ls=>match ls with
  | [.int a0,.int a1,.lst a2 a3,.int a4,.int a5,.lst a6 a7]=>some (a0,a1,a2,a3,a4,a5,a6,a7)
  | _=>none
def f154.P:List Ae:=[MB,MB]
def f154.A:Ak (Bool):=.one ⟨[CR],[none,none]⟩ Bj
def f154.F (n:Nat) (v:ZI):=let (a,b,c,d,e,f,g,h):=v;f154 n a b c d e f g h
def f154.O (n:Nat):BZ:=AU (E:=E) [f183.w] [] n
theorem f154.ok:CT 154 f154.P HF f154.A f154.F:=Ce WG f154.O
def f154.w:BX E:=Bm 154 f154.P HF f154.A f154.F f154.ok
def f113.l0 (n:Nat):Nat→Nat→List T→Nat→List T→Int→Option ((Bool) ⊕ (Unit))
 | 0,_,_,_,_,_=>none
 | m+1,n1,l2,n3,l4,i5 =>
   br (decide (i5<(n1:Int))) (
    gd ((decide ((0≤i5)∧(i5<(n1:Int))))&&(Ag [(.int .i64),(.int .i64),.lst] l2 (((Int.toNat i5) * 3)+0))) (
    gd ((decide ((0≤i5)∧(i5<(n3:Int))))&&(Ag [(.int .i64),(.int .i64),.lst] l4 (((Int.toNat i5) * 3)+0))) (
    bd (f154 n (DA l2 (((Int.toNat i5) * 3)+0)) (DA l2 ((((Int.toNat i5) * 3)+0)+1)) (EF l2 (((((Int.toNat i5) * 3)+0)+1)+1)) (EN l2 (((((Int.toNat i5) * 3)+0)+1)+1)) (DA l4 (((Int.toNat i5) * 3)+0)) (DA l4 ((((Int.toNat i5) * 3)+0)+1)) (EF l4 (((((Int.toNat i5) * 3)+0)+1)+1)) (EN l4 (((((Int.toNat i5) * 3)+0)+1)+1))) fun r6 =>
    let b7:=r6
    br (!b7) (
     some (Sum.inl false)) (
     f113.l0 n m n1 l2 n3 l4 (IntKind.i64.wrap (i5+(1:Int))))))) (
    some (Sum.inr ()))
def f113:Nat→Nat→List T→Nat→List T→Option (Bool)
 | 0,_,_,_,_=>none
 | n+1,n1,l2,n3,l4 =>
   br ((n1:Int) != (n3:Int)) (
    some false) (
    bd (f113.l0 n n n1 l2 n3 l4 (0:Int)) fun r5 =>
    sm r5 (fun u6 =>
     let b7:=u6
     some b7) (fun u8 =>
     some true))
def f113.l0.P:AS:=⟨[(0,GQ),(1,GQ),(5,Ar)],0⟩
def f113.l0.A:Fa ((Bool) ⊕ (Unit)):=.or (.one .ret ⟨[(4,Ke)],0⟩ Bj) (.one (.exit 0) ⟨[(4,.dead)],0⟩ sg)
def f113.l0.F (n m:Nat) (v:Ii):=let (a,b,c,d,e):=v;f113.l0 n m a b c d e
def f113.l0.W (n:Nat):Gi:=.of 64 f113.l0.P BV f113.l0.A (f113.l0.F n n)
def f113.P:List Ae:=[Io,Io]
def f113.A:Ak (Bool):=.one ⟨[CR],[none,none]⟩ Bj
def f113.F (n:Nat) (v:GR):=let (a,b,c,d):=v;f113 n a b c d
def f113.O (n:Nat):BZ:=AU (E:=E) [f154.w] [f113.l0.W n] n
theorem f113.l0.ok:∀ n,HY 113 SW 0 n (f113.O n):=Ha f113.l0.P BV f113.l0.A f113.l0.F
theorem f113.ok:CT 113 f113.P CO f113.A f113.F:=Ce SW f113.O [An SW 0] (fun n=>(.cons (f113.l0.ok n) .nil))
def f113.w:BX E:=Bm 113 f113.P CO f113.A f113.F f113.ok
def f197:Nat→Int→Int→Nat→List T→Int→Int→Nat→List T→Option (Bool)
 | 0,_,_,_,_,_,_,_,_=>none
 | n+1,i1,i2,n3,l4,i5,i6,n7,l8 =>
   br (i1 != i5) (
    some false) (
    br (i2 != i6) (
     some false) (
     bd (f183 n n3 l4 n7 l8) fun r9 =>
     let b10:=r9
     br (!b10) (
      some false) (
      some true)))
def f197.P:List Ae:=[MB,MB]
def f197.A:Ak (Bool):=.one ⟨[CR],[none,none]⟩ Bj
def f197.F (n:Nat) (v:ZI):=let (a,b,c,d,e,f,g,h):=v;f197 n a b c d e f g h
def f197.O (n:Nat):BZ:=AU (E:=E) [f183.w] [] n
theorem f197.ok:CT 197 f197.P HF f197.A f197.F:=Ce Vk f197.O
def f197.w:BX E:=Bm 197 f197.P HF f197.A f197.F f197.ok
def f184.l0 (n:Nat):Nat→Nat→List T→Nat→List T→Int→Option ((Bool) ⊕ (Unit))
 | 0,_,_,_,_,_=>none
 | m+1,n1,l2,n3,l4,i5 =>
   br (decide (i5<(n1:Int))) (
    gd ((decide ((0≤i5)∧(i5<(n1:Int))))&&(Ag [(.int .i64),(.int .i64),.lst] l2 (((Int.toNat i5) * 3)+0))) (
    gd ((decide ((0≤i5)∧(i5<(n3:Int))))&&(Ag [(.int .i64),(.int .i64),.lst] l4 (((Int.toNat i5) * 3)+0))) (
    bd (f197 n (DA l2 (((Int.toNat i5) * 3)+0)) (DA l2 ((((Int.toNat i5) * 3)+0)+1)) (EF l2 (((((Int.toNat i5) * 3)+0)+1)+1)) (EN l2 (((((Int.toNat i5) * 3)+0)+1)+1)) (DA l4 (((Int.toNat i5) * 3)+0)) (DA l4 ((((Int.toNat i5) * 3)+0)+1)) (EF l4 (((((Int.toNat i5) * 3)+0)+1)+1)) (EN l4 (((((Int.toNat i5) * 3)+0)+1)+1))) fun r6 =>
    let b7:=r6
    br (!b7) (
     some (Sum.inl false)) (
     f184.l0 n m n1 l2 n3 l4 (IntKind.i64.wrap (i5+(1:Int))))))) (
    some (Sum.inr ()))
def f184:Nat→Nat→List T→Nat→List T→Option (Bool)
 | 0,_,_,_,_=>none
 | n+1,n1,l2,n3,l4 =>
   br ((n1:Int) != (n3:Int)) (
    some false) (
    bd (f184.l0 n n n1 l2 n3 l4 (0:Int)) fun r5 =>
    sm r5 (fun u6 =>
     let b7:=u6
     some b7) (fun u8 =>
     some true))
def f184.l0.P:AS:=⟨[(0,GQ),(1,GQ),(5,Ar)],0⟩
def f184.l0.A:Fa ((Bool) ⊕ (Unit)):=.or (.one .ret ⟨[(4,Ke)],0⟩ Bj) (.one (.exit 0) ⟨[(4,.dead)],0⟩ sg)
def f184.l0.F (n m:Nat) (v:Ii):=let (a,b,c,d,e):=v;f184.l0 n m a b c d e
def f184.l0.W (n:Nat):Gi:=.of 64 f184.l0.P BV f184.l0.A (f184.l0.F n n)
def f184.P:List Ae:=[Io,Io]
def f184.A:Ak (Bool):=.one ⟨[CR],[none,none]⟩ Bj
def f184.F (n:Nat) (v:GR):=let (a,b,c,d):=v;f184 n a b c d
def f184.O (n:Nat):BZ:=AU (E:=E) [f197.w] [f184.l0.W n] n
theorem f184.l0.ok:∀ n,HY 184 Tl 0 n (f184.O n):=Ha f184.l0.P BV f184.l0.A f184.l0.F
theorem f184.ok:CT 184 f184.P CO f184.A f184.F:=Ce Tl f184.O [An Tl 0] (fun n=>(.cons (f184.l0.ok n) .nil))
def f184.w:BX E:=Bm 184 f184.P CO f184.A f184.F f184.ok
def f155:Nat→Nat→List T→Int→Nat→Bool→Bool→Nat→List T→Int→Nat→Bool→Bool→Option (Bool)
 | 0,_,_,_,_,_,_,_,_,_,_,_,_=>none
 | n+1,n1,l2,i3,x4,b5,b6,n7,l8,i9,x10,b11,b12 =>
   bd (f184 n n1 l2 n7 l8) fun r13 =>
   let b14:=r13
   br (!b14) (
    some false) (
    br (i3 != i9) (
     some false) (
     bd ((CE .f32 x4 .f64)) fun y15 =>
     bd ((CE .f32 x10 .f64)) fun y16 =>
     bd (f185 n y15 y16) fun r17 =>
     let b18:=r17
     br (!b18) (
      some false) (
      br (!(b5==b11)) (
       some false) (
       br (!(b6==b12)) (
        some false) (
        some true)))))
def Hd:EY (ZX) where
 pk:=fun (a0,a1,a2,a3,a4,a5,a6,a7,a8,a9,a10,a11)=>[.lst a0 a1,.int a2,.flt a3,.bool a4,.bool a5,.lst a6 a7,.int a8,.flt a9,.bool a10,.bool a11]
 up:=fun ls=>match ls with
  | [.lst a0 a1,.int a2,.flt a3,.bool a4,.bool a5,.lst a6 a7,.int a8,.flt a9,.bool a10,.bool a11]=>some (a0,a1,a2,a3,a4,a5,a6,a7,a8,a9,a10,a11)
  | _=>none
def f155.P:List Ae:=[T4,T4]
def f155.A:Ak (Bool):=.one ⟨[CR],[none,none]⟩ Bj
def f155.F (n:Nat) (v:ZX):=let (a,b,c,d,e,f,g,h,i,j,k,l):=v;f155 n a b c d e f g h i j k l
def f155.O (n:Nat):BZ:=AU (E:=E) [f185.w,f184.w] [] n
theorem f155.ok:CT 155 f155.P Hd f155.A f155.F:=Ce VT f155.O
def f155.w:BX E:=Bm 155 f155.P Hd f155.A f155.F f155.ok
def f114.l0 (n:Nat):Nat→Nat→List T→Nat→List T→Int→Option ((Bool) ⊕ (Unit))
 | 0,_,_,_,_,_=>none
 | m+1,n1,l2,n3,l4,i5 =>
   br (decide (i5<(n1:Int))) (
    gd ((decide ((0≤i5)∧(i5<(n1:Int))))&&(Ag [.lst,(.int .i64),(.flt .f32),.bool,.bool] l2 (((Int.toNat i5) * 5)+0))) (
    gd ((decide ((0≤i5)∧(i5<(n3:Int))))&&(Ag [.lst,(.int .i64),(.flt .f32),.bool,.bool] l4 (((Int.toNat i5) * 5)+0))) (
    bd (f155 n (EF l2 (((Int.toNat i5) * 5)+0)) (EN l2 (((Int.toNat i5) * 5)+0)) (DA l2 ((((Int.toNat i5) * 5)+0)+1)) (JU l2 (((((Int.toNat i5) * 5)+0)+1)+1)) (KX l2 ((((((Int.toNat i5) * 5)+0)+1)+1)+1)) (KX l2 (((((((Int.toNat i5) * 5)+0)+1)+1)+1)+1)) (EF l4 (((Int.toNat i5) * 5)+0)) (EN l4 (((Int.toNat i5) * 5)+0)) (DA l4 ((((Int.toNat i5) * 5)+0)+1)) (JU l4 (((((Int.toNat i5) * 5)+0)+1)+1)) (KX l4 ((((((Int.toNat i5) * 5)+0)+1)+1)+1)) (KX l4 (((((((Int.toNat i5) * 5)+0)+1)+1)+1)+1))) fun r6 =>
    let b7:=r6
    br (!b7) (
     some (Sum.inl false)) (
     f114.l0 n m n1 l2 n3 l4 (IntKind.i64.wrap (i5+(1:Int))))))) (
    some (Sum.inr ()))
def f114:Nat→Nat→List T→Nat→List T→Option (Bool)
 | 0,_,_,_,_=>none
 | n+1,n1,l2,n3,l4 =>
   br ((n1:Int) != (n3:Int)) (
    some false) (
    bd (f114.l0 n n n1 l2 n3 l4 (0:Int)) fun r5 =>
    sm r5 (fun u6 =>
     let b7:=u6
     some b7) (fun u8 =>
     some true))
def f114.l0.P:AS:=⟨[(0,P6),(1,P6),(5,Ar)],0⟩
def f114.l0.A:Fa ((Bool) ⊕ (Unit)):=.or (.one .ret ⟨[(4,Ke)],0⟩ Bj) (.one (.exit 0) ⟨[(4,.dead)],0⟩ sg)
def f114.l0.F (n m:Nat) (v:Ii):=let (a,b,c,d,e):=v;f114.l0 n m a b c d e
def f114.l0.W (n:Nat):Gi:=.of 64 f114.l0.P BV f114.l0.A (f114.l0.F n n)
def f114.P:List Ae:=[SP,SP]
def f114.A:Ak (Bool):=.one ⟨[CR],[none,none]⟩ Bj
def f114.F (n:Nat) (v:GR):=let (a,b,c,d):=v;f114 n a b c d
def f114.O (n:Nat):BZ:=AU (E:=E) [f155.w] [f114.l0.W n] n
theorem f114.l0.ok:∀ n,HY 114 Sv 0 n (f114.O n):=Ha f114.l0.P BV f114.l0.A f114.l0.F
theorem f114.ok:CT 114 f114.P CO f114.A f114.F:=Ce Sv f114.O [An Sv 0] (fun n=>(.cons (f114.l0.ok n) .nil))
def f114.w:BX E:=Bm 114 f114.P CO f114.A f114.F f114.ok
def f57:Nat→Nat→List T→Nat→List T→Nat→List T→Nat→List T→Option (Bool)
 | 0,_,_,_,_,_,_,_,_=>none
 | n+1,n1,l2,n3,l4,n5,l6,n7,l8 =>
   bd (f113 n n1 l2 n5 l6) fun r9 =>
   let b10:=r9
   br (!b10) (
    some false) (
    bd (f114 n n3 l4 n7 l8) fun r11 =>
    let b12:=r11
    br (!b12) (
     some false) (
     some true))
def f57.P:List Ae:=[MD,MD]
def f57.A:Ak (Bool):=.one ⟨[CR],[none,none]⟩ Bj
def f57.F (n:Nat) (v:Wf):=let (a,b,c,d,e,f,g,h):=v;f57 n a b c d e f g h
def f57.O (n:Nat):BZ:=AU (E:=E) [f113.w,f114.w] [] n
theorem f57.ok:CT 57 f57.P KZ f57.A f57.F:=Ce ZH f57.O
def f57.w:BX E:=Bm 57 f57.P KZ f57.A f57.F f57.ok
def f156.l0 (n:Nat):Nat→Nat→List T→Int→Int→Option (Nat × List T × Int)
 | 0,_,_,_,_=>none
 | m+1,n1,l2,i3,i4 =>
   br (decide (i4<(n1:Int))) (
    gd (decide ((0≤i4)∧(i4<(n1:Int)))) (
    gd (Nat.ble ((Int.toNat i4)+1) (List.length l2)) (
    let l5:=(AT l2 (Int.toNat i4) [(T.flt .f32 (FloatKind.nearest .f32 i3))])
    let i6:=(IntKind.i64.wrap (i3+(1:Int)))
    f156.l0 n m n1 l5 i6 (IntKind.i64.wrap (i4+(1:Int)))))) (
    some (n1,l2,i3))
def f156:Nat→Nat→List T→Int→Option (Int × Nat × List T)
 | 0,_,_,_=>none
 | n+1,n1,l2,i3 =>
   bd (f156.l0 n n n1 l2 i3 (0:Int)) fun r4 =>
   let n5:=r4.1
   let l6:=r4.2.1
   let i7:=r4.2.2
   some (i7,n5,l6)
def Qx:EY (Int × Nat × List T) where
 pk:=fun (a0,a1,a2)=>[.int a0,.lst a1 a2]
 up:=fun ls=>match ls with
  | [.int a0,.lst a1 a2]=>some (a0,a1,a2)
  | _=>none
def f156.l0.P:AS:=⟨[(0,.val false [.sl .own [.leaf]] [.lst 0 []] [] 1),(1,Ar),(5,Ar)],0⟩
def f156.l0.A:Fa (Nat × List T × Int):=.one (.exit 0) ⟨[(0,.val false [.sl .own [.leaf]] [.lst 0 []] [] 1),(1,Ar)],0⟩ Ba
def f156.l0.F (n m:Nat) (v:JG):=let (a,b,c,d):=v;f156.l0 n m a b c d
def f156.l0.W (n:Nat):Gi:=.of 32 f156.l0.P BT f156.l0.A (f156.l0.F n n)
def f156.P:List Ae:=[⟨.io,RF⟩,Bs]
def f156.A:Ak (Int × Nat × List T):=.one ⟨[FA],[some RF,none]⟩ Qx
def f156.F (n:Nat) (v:Nat × List T × Int):=f156 n v.1 v.2.1 v.2.2
def f156.O (n:Nat):BZ:=AU (E:=E) [] [f156.l0.W n] n
theorem f156.l0.ok:∀ n,HY 156 SZ 0 n (f156.O n):=Ha f156.l0.P BT f156.l0.A f156.l0.F
theorem f156.ok:CT 156 f156.P Ba f156.A f156.F:=Ce SZ f156.O [An SZ 0] (fun n=>(.cons (f156.l0.ok n) .nil))
def f156.w:BX E:=Bm 156 f156.P Ba f156.A f156.F f156.ok
def f115.l0 (n:Nat):Nat→Nat→List T→Int→Int→Option (Nat × List T × Int)
 | 0,_,_,_,_=>none
 | m+1,n1,l2,i3,i4 =>
   br (decide (i4<(n1:Int))) (
    gd (decide ((0≤i4)∧(i4<(n1:Int)))) (
    gd (Nat.ble ((((Int.toNat i4) * 3)+0)+1) (List.length l2)) (
    let l5:=(AT l2 (((Int.toNat i4) * 3)+0) [(T.int .i64 i3)])
    let i6:=(IntKind.i64.wrap (i3+(1:Int)))
    gd (decide ((0≤i4)∧(i4<(n1:Int)))) (
    gd (Nat.ble ((((Int.toNat i4) * 3)+1)+1) (List.length l5)) (
    let l7:=(AT l5 (((Int.toNat i4) * 3)+1) [(T.int .i64 i6)])
    let i8:=(IntKind.i64.wrap (i6+(1:Int)))
    gd (decide ((0≤i4)∧(i4<(n1:Int)))) (
    gd (Ag [.lst] l7 (((Int.toNat i4) * 3)+2)) (
    gd ((Ag [.lst] l7 (((Int.toNat i4) * 3)+2))&&true) (
    gd ((Ag [.lst] l7 (((Int.toNat i4) * 3)+2))&&true) (
    bd (f156 n (EF l7 (((Int.toNat i4) * 3)+2)) (EN l7 (((Int.toNat i4) * 3)+2)) i8) fun r9 =>
    let i10:=r9.1
    let n11:=r9.2.1
    let l12:=r9.2.2
    let l13:=(AT l7 (((Int.toNat i4) * 3)+2) [(T.lst n11 l12)])
    f115.l0 n m n1 l13 i10 (IntKind.i64.wrap (i4+(1:Int)))))))))))) (
    some (n1,l2,i3))
def f115:Nat→Nat→List T→Int→Option (Int × Nat × List T)
 | 0,_,_,_=>none
 | n+1,n1,l2,i3 =>
   bd (f115.l0 n n n1 l2 i3 (0:Int)) fun r4 =>
   let n5:=r4.1
   let l6:=r4.2.1
   let i7:=r4.2.2
   some (i7,n5,l6)
def f115.l0.P:AS:=⟨[(0,Uc),(1,Ar),(5,Ar)],0⟩
def f115.l0.A:Fa (Nat × List T × Int):=.one (.exit 0) ⟨[(0,Uc),(1,Ar)],0⟩ Ba
def f115.l0.F (n m:Nat) (v:JG):=let (a,b,c,d):=v;f115.l0 n m a b c d
def f115.l0.W (n:Nat):Gi:=.of 32 f115.l0.P BT f115.l0.A (f115.l0.F n n)
def f115.P:List Ae:=[⟨.io,U0⟩,Bs]
def f115.A:Ak (Int × Nat × List T):=.one ⟨[FA],[some U0,none]⟩ Qx
def f115.F (n:Nat) (v:Nat × List T × Int):=f115 n v.1 v.2.1 v.2.2
def f115.O (n:Nat):BZ:=AU (E:=E) [f156.w] [f115.l0.W n] n
theorem f115.l0.ok:∀ n,HY 115 S6 0 n (f115.O n):=Ha f115.l0.P BT f115.l0.A f115.l0.F
theorem f115.ok:CT 115 f115.P Ba f115.A f115.F:=Ce S6 f115.O [An S6 0] (fun n=>(.cons (f115.l0.ok n) .nil))
def f115.w:BX E:=Bm 115 f115.P Ba f115.A f115.F f115.ok
def f157.l0 (n:Nat):Nat→Nat→List T→Int→Int→Option (Nat × List T × Int)
 | 0,_,_,_,_=>none
 | m+1,n1,l2,i3,i4 =>
   br (decide (i4<(n1:Int))) (
    gd (decide ((0≤i4)∧(i4<(n1:Int)))) (
    gd (Nat.ble ((((Int.toNat i4) * 3)+0)+1) (List.length l2)) (
    let l5:=(AT l2 (((Int.toNat i4) * 3)+0) [(T.int .i64 i3)])
    let i6:=(IntKind.i64.wrap (i3+(1:Int)))
    gd (decide ((0≤i4)∧(i4<(n1:Int)))) (
    gd (Nat.ble ((((Int.toNat i4) * 3)+1)+1) (List.length l5)) (
    let l7:=(AT l5 (((Int.toNat i4) * 3)+1) [(T.int .i64 i6)])
    let i8:=(IntKind.i64.wrap (i6+(1:Int)))
    gd (decide ((0≤i4)∧(i4<(n1:Int)))) (
    gd (Ag [.lst] l7 (((Int.toNat i4) * 3)+2)) (
    gd ((Ag [.lst] l7 (((Int.toNat i4) * 3)+2))&&true) (
    gd ((Ag [.lst] l7 (((Int.toNat i4) * 3)+2))&&true) (
    bd (f156 n (EF l7 (((Int.toNat i4) * 3)+2)) (EN l7 (((Int.toNat i4) * 3)+2)) i8) fun r9 =>
    let i10:=r9.1
    let n11:=r9.2.1
    let l12:=r9.2.2
    let l13:=(AT l7 (((Int.toNat i4) * 3)+2) [(T.lst n11 l12)])
    f157.l0 n m n1 l13 i10 (IntKind.i64.wrap (i4+(1:Int)))))))))))) (
    some (n1,l2,i3))
def f157:Nat→Nat→List T→Int→Option (Int × Nat × List T)
 | 0,_,_,_=>none
 | n+1,n1,l2,i3 =>
   bd (f157.l0 n n n1 l2 i3 (0:Int)) fun r4 =>
   let n5:=r4.1
   let l6:=r4.2.1
   let i7:=r4.2.2
   some (i7,n5,l6)
def f157.l0.P:AS:=⟨[(0,Uc),(1,Ar),(5,Ar)],0⟩
def f157.l0.A:Fa (Nat × List T × Int):=.one (.exit 0) ⟨[(0,Uc),(1,Ar)],0⟩ Ba
def f157.l0.F (n m:Nat) (v:JG):=let (a,b,c,d):=v;f157.l0 n m a b c d
def f157.l0.W (n:Nat):Gi:=.of 32 f157.l0.P BT f157.l0.A (f157.l0.F n n)
def f157.P:List Ae:=[⟨.io,U0⟩,Bs]
def f157.A:Ak (Int × Nat × List T):=.one ⟨[FA],[some U0,none]⟩ Qx
def f157.F (n:Nat) (v:Nat × List T × Int):=f157 n v.1 v.2.1 v.2.2
def f157.O (n:Nat):BZ:=AU (E:=E) [f156.w] [f157.l0.W n] n
theorem f157.l0.ok:∀ n,HY 157 Tc 0 n (f157.O n):=Ha f157.l0.P BT f157.l0.A f157.l0.F
theorem f157.ok:CT 157 f157.P Ba f157.A f157.F:=Ce Tc f157.O [An Tc 0] (fun n=>(.cons (f157.l0.ok n) .nil))
def f157.w:BX E:=Bm 157 f157.P Ba f157.A f157.F f157.ok
def f116.l0 (n:Nat):Nat→Nat→List T→Int→Int→Option (Nat × List T × Int)
 | 0,_,_,_,_=>none
 | m+1,n1,l2,i3,i4 =>
   br (decide (i4<(n1:Int))) (
    gd (decide ((0≤i4)∧(i4<(n1:Int)))) (
    gd (Ag [.lst] l2 (((Int.toNat i4) * 5)+0)) (
    gd ((Ag [.lst] l2 (((Int.toNat i4) * 5)+0))&&true) (
    gd ((Ag [.lst] l2 (((Int.toNat i4) * 5)+0))&&true) (
    bd (f157 n (EF l2 (((Int.toNat i4) * 5)+0)) (EN l2 (((Int.toNat i4) * 5)+0)) i3) fun r5 =>
    let i6:=r5.1
    let n7:=r5.2.1
    let l8:=r5.2.2
    let l9:=(AT l2 (((Int.toNat i4) * 5)+0) [(T.lst n7 l8)])
    gd (decide ((0≤i4)∧(i4<(n1:Int)))) (
    gd (Nat.ble ((((Int.toNat i4) * 5)+1)+1) (List.length l9)) (
    let l10:=(AT l9 (((Int.toNat i4) * 5)+1) [(T.int .i64 i6)])
    let i11:=(IntKind.i64.wrap (i6+(1:Int)))
    gd (decide ((0≤i4)∧(i4<(n1:Int)))) (
    gd (Nat.ble ((((Int.toNat i4) * 5)+2)+1) (List.length l10)) (
    let l12:=(AT l10 (((Int.toNat i4) * 5)+2) [(T.flt .f32 (FloatKind.nearest .f32 i11))])
    let i13:=(IntKind.i64.wrap (i11+(1:Int)))
    gd (decide ((0≤i4)∧(i4<(n1:Int)))) (
    gd (Nat.ble ((((Int.toNat i4) * 5)+3)+1) (List.length l12)) (
    let l14:=(AT l12 (((Int.toNat i4) * 5)+3) [(T.bool ((Int.tmod i13 (3:Int))==(0:Int)))])
    let i15:=(IntKind.i64.wrap (i13+(1:Int)))
    gd (decide ((0≤i4)∧(i4<(n1:Int)))) (
    gd (Nat.ble ((((Int.toNat i4) * 5)+4)+1) (List.length l14)) (
    let l16:=(AT l14 (((Int.toNat i4) * 5)+4) [(T.bool ((Int.tmod i15 (3:Int))==(0:Int)))])
    let i17:=(IntKind.i64.wrap (i15+(1:Int)))
    f116.l0 n m n1 l16 i17 (IntKind.i64.wrap (i4+(1:Int)))))))))))))))) (
    some (n1,l2,i3))
def f116:Nat→Nat→List T→Int→Option (Int × Nat × List T)
 | 0,_,_,_=>none
 | n+1,n1,l2,i3 =>
   bd (f116.l0 n n n1 l2 i3 (0:Int)) fun r4 =>
   let n5:=r4.1
   let l6:=r4.2.1
   let i7:=r4.2.2
   some (i7,n5,l6)
def f116.l0.P:AS:=⟨[(0,.val false [.sl .own [.sl .own [.leaf,.leaf,.sl .own [.leaf]],.leaf,.leaf,.leaf,.leaf]] [.lst 0 []] [] 1),(1,Ar),(5,Ar)],0⟩
def f116.l0.A:Fa (Nat × List T × Int):=.one (.exit 0) ⟨[(0,.val false [.sl .own [.sl .own [.leaf,.leaf,.sl .own [.leaf]],.leaf,.leaf,.leaf,.leaf]] [.lst 0 []] [] 1),(1,Ar)],0⟩ Ba
def f116.l0.F (n m:Nat) (v:JG):=let (a,b,c,d):=v;f116.l0 n m a b c d
def f116.l0.W (n:Nat):Gi:=.of 32 f116.l0.P BT f116.l0.A (f116.l0.F n n)
def f116.P:List Ae:=[⟨.io,Y5⟩,Bs]
def f116.A:Ak (Int × Nat × List T):=.one ⟨[FA],[some Y5,none]⟩ Qx
def f116.F (n:Nat) (v:Nat × List T × Int):=f116 n v.1 v.2.1 v.2.2
def f116.O (n:Nat):BZ:=AU (E:=E) [f157.w] [f116.l0.W n] n
theorem f116.l0.ok:∀ n,HY 116 SN 0 n (f116.O n):=Ha f116.l0.P BT f116.l0.A f116.l0.F
theorem f116.ok:CT 116 f116.P Ba f116.A f116.F:=Ce SN f116.O [An SN 0] (fun n=>(.cons (f116.l0.ok n) .nil))
def f116.w:BX E:=Bm 116 f116.P Ba f116.A f116.F f116.ok
def f58:Nat→Nat→List T→Nat→List T→Int→Option (Vy)
 | 0,_,_,_,_,_=>none
 | n+1,n1,l2,n3,l4,i5 =>
   bd (f115 n n1 l2 i5) fun r6 =>
   let i7:=r6.1
   let n8:=r6.2.1
   let l9:=r6.2.2
   bd (f116 n n3 l4 i7) fun r10 =>
   let i11:=r10.1
   let n12:=r10.2.1
   let l13:=r10.2.2
   some (i11,n8,l9,n12,l13)
def Vs:EY (Vy) where
 pk:=fun (a0,a1,a2,a3,a4)=>[.int a0,.lst a1 a2,.lst a3 a4]
 up:=fun ls=>match ls with
  | [.int a0,.lst a1 a2,.lst a3 a4]=>some (a0,a1,a2,a3,a4)
  | _=>none
def f58.P:List Ae:=[⟨.io,TL⟩,Bs]
def f58.A:Ak (Vy):=.one ⟨[FA],[some TL,none]⟩ Vs
def f58.F (n:Nat) (v:Ii):=let (a,b,c,d,e):=v;f58 n a b c d e
def f58.O (n:Nat):BZ:=AU (E:=E) [f115.w,f116.w] [] n
theorem f58.ok:CT 58 f58.P BV f58.A f58.F:=Ce ZG f58.O
def f58.w:BX E:=Bm 58 f58.P BV f58.A f58.F f58.ok
def f158.l0 (n:Nat):Nat→Nat→List T→Int→Int→Option ((Int) ⊕ (Int))
 | 0,_,_,_,_=>none
 | m+1,n1,l2,i3,i4 =>
   br (decide (i4<(n1:Int))) (
    gd ((decide ((0≤i4)∧(i4<(n1:Int))))&&(Ag [(.flt .f32)] l2 (Int.toNat i4))) (
    br (SE .f32 (JU l2 (Int.toNat i4)) (FloatKind.nearest .f32 i3)) (
     some (Sum.inl (-1:Int))) (
     let i5:=(IntKind.i64.wrap (i3+(1:Int)))
     f158.l0 n m n1 l2 i5 (IntKind.i64.wrap (i4+(1:Int)))))) (
    some (Sum.inr i3))
def f158:Nat→Nat→List T→Int→Option (Int)
 | 0,_,_,_=>none
 | n+1,n1,l2,i3 =>
   bd (f158.l0 n n n1 l2 i3 (0:Int)) fun r4 =>
   sm r4 (fun u5 =>
    let i6:=u5
    some i6) (fun u7 =>
    let i8:=u7
    some i8)
def f158.l0.P:AS:=⟨[(0,UM),(1,Ar),(5,Ar)],0⟩
def f158.l0.A:Fa ((Int) ⊕ (Int)):=.or (.one .ret ⟨[(1,.dead),(4,Ar)],0⟩ CQ) (.one (.exit 0) ⟨[(1,Ar),(4,.dead)],0⟩ CQ)
def f158.l0.F (n m:Nat) (v:JG):=let (a,b,c,d):=v;f158.l0 n m a b c d
def f158.l0.W (n:Nat):Gi:=.of 32 f158.l0.P BT f158.l0.A (f158.l0.F n n)
def f158.P:List Ae:=[M8,Bs]
def f158.A:Ak (Int):=.one ⟨[FA],[none,none]⟩ CQ
def f158.F (n:Nat) (v:Nat × List T × Int):=f158 n v.1 v.2.1 v.2.2
def f158.O (n:Nat):BZ:=AU (E:=E) [] [f158.l0.W n] n
theorem f158.l0.ok:∀ n,HY 158 S1 0 n (f158.O n):=Ha f158.l0.P BT f158.l0.A f158.l0.F
theorem f158.ok:CT 158 f158.P Ba f158.A f158.F:=Ce S1 f158.O [An S1 0] (fun n=>(.cons (f158.l0.ok n) .nil))
def f158.w:BX E:=Bm 158 f158.P Ba f158.A f158.F f158.ok
def f117.l0 (n:Nat):Nat→Nat→List T→Int→Int→Option ((Int) ⊕ (Int))
 | 0,_,_,_,_=>none
 | m+1,n1,l2,i3,i4 =>
   br (decide (i4<(n1:Int))) (
    gd ((decide ((0≤i4)∧(i4<(n1:Int))))&&(Ag [(.int .i64),(.int .i64),.lst] l2 (((Int.toNat i4) * 3)+0))) (
    br ((DA l2 (((Int.toNat i4) * 3)+0)) != i3) (
     some (Sum.inl (-1:Int))) (
     let i5:=(IntKind.i64.wrap (i3+(1:Int)))
     gd ((decide ((0≤i4)∧(i4<(n1:Int))))&&(Ag [(.int .i64),(.int .i64),.lst] l2 (((Int.toNat i4) * 3)+0))) (
     br ((DA l2 ((((Int.toNat i4) * 3)+0)+1)) != i5) (
      some (Sum.inl (-1:Int))) (
      let i6:=(IntKind.i64.wrap (i5+(1:Int)))
      gd ((decide ((0≤i4)∧(i4<(n1:Int))))&&(Ag [(.int .i64),(.int .i64),.lst] l2 (((Int.toNat i4) * 3)+0))) (
      bd (f158 n (EF l2 (((((Int.toNat i4) * 3)+0)+1)+1)) (EN l2 (((((Int.toNat i4) * 3)+0)+1)+1)) i6) fun r7 =>
      let i8:=r7
      br (decide (i8<(0:Int))) (
       some (Sum.inl (-1:Int))) (
       f117.l0 n m n1 l2 i8 (IntKind.i64.wrap (i4+(1:Int)))))))))) (
    some (Sum.inr i3))
def f117:Nat→Nat→List T→Int→Option (Int)
 | 0,_,_,_=>none
 | n+1,n1,l2,i3 =>
   bd (f117.l0 n n n1 l2 i3 (0:Int)) fun r4 =>
   sm r4 (fun u5 =>
    let i6:=u5
    some i6) (fun u7 =>
    let i8:=u7
    some i8)
def f117.l0.P:AS:=⟨[(0,GQ),(1,Ar),(5,Ar)],0⟩
def f117.l0.A:Fa ((Int) ⊕ (Int)):=.or (.one .ret ⟨[(1,.dead),(4,Ar)],0⟩ CQ) (.one (.exit 0) ⟨[(1,Ar),(4,.dead)],0⟩ CQ)
def f117.l0.F (n m:Nat) (v:JG):=let (a,b,c,d):=v;f117.l0 n m a b c d
def f117.l0.W (n:Nat):Gi:=.of 32 f117.l0.P BT f117.l0.A (f117.l0.F n n)
def f117.P:List Ae:=[Io,Bs]
def f117.A:Ak (Int):=.one ⟨[FA],[none,none]⟩ CQ
def f117.F (n:Nat) (v:Nat × List T × Int):=f117 n v.1 v.2.1 v.2.2
def f117.O (n:Nat):BZ:=AU (E:=E) [f158.w] [f117.l0.W n] n
theorem f117.l0.ok:∀ n,HY 117 SV 0 n (f117.O n):=Ha f117.l0.P BT f117.l0.A f117.l0.F
theorem f117.ok:CT 117 f117.P Ba f117.A f117.F:=Ce SV f117.O [An SV 0] (fun n=>(.cons (f117.l0.ok n) .nil))
def f117.w:BX E:=Bm 117 f117.P Ba f117.A f117.F f117.ok
def f159.l0 (n:Nat):Nat→Nat→List T→Int→Int→Option ((Int) ⊕ (Int))
 | 0,_,_,_,_=>none
 | m+1,n1,l2,i3,i4 =>
   br (decide (i4<(n1:Int))) (
    gd ((decide ((0≤i4)∧(i4<(n1:Int))))&&(Ag [(.int .i64),(.int .i64),.lst] l2 (((Int.toNat i4) * 3)+0))) (
    br ((DA l2 (((Int.toNat i4) * 3)+0)) != i3) (
     some (Sum.inl (-1:Int))) (
     let i5:=(IntKind.i64.wrap (i3+(1:Int)))
     gd ((decide ((0≤i4)∧(i4<(n1:Int))))&&(Ag [(.int .i64),(.int .i64),.lst] l2 (((Int.toNat i4) * 3)+0))) (
     br ((DA l2 ((((Int.toNat i4) * 3)+0)+1)) != i5) (
      some (Sum.inl (-1:Int))) (
      let i6:=(IntKind.i64.wrap (i5+(1:Int)))
      gd ((decide ((0≤i4)∧(i4<(n1:Int))))&&(Ag [(.int .i64),(.int .i64),.lst] l2 (((Int.toNat i4) * 3)+0))) (
      bd (f158 n (EF l2 (((((Int.toNat i4) * 3)+0)+1)+1)) (EN l2 (((((Int.toNat i4) * 3)+0)+1)+1)) i6) fun r7 =>
      let i8:=r7
      br (decide (i8<(0:Int))) (
       some (Sum.inl (-1:Int))) (
       f159.l0 n m n1 l2 i8 (IntKind.i64.wrap (i4+(1:Int)))))))))) (
    some (Sum.inr i3))
def f159:Nat→Nat→List T→Int→Option (Int)
 | 0,_,_,_=>none
 | n+1,n1,l2,i3 =>
   bd (f159.l0 n n n1 l2 i3 (0:Int)) fun r4 =>
   sm r4 (fun u5 =>
    let i6:=u5
    some i6) (fun u7 =>
    let i8:=u7
    some i8)
def f159.l0.P:AS:=⟨[(0,GQ),(1,Ar),(5,Ar)],0⟩
def f159.l0.A:Fa ((Int) ⊕ (Int)):=.or (.one .ret ⟨[(1,.dead),(4,Ar)],0⟩ CQ) (.one (.exit 0) ⟨[(1,Ar),(4,.dead)],0⟩ CQ)
def f159.l0.F (n m:Nat) (v:JG):=let (a,b,c,d):=v;f159.l0 n m a b c d
def f159.l0.W (n:Nat):Gi:=.of 32 f159.l0.P BT f159.l0.A (f159.l0.F n n)
def f159.P:List Ae:=[Io,Bs]
def f159.A:Ak (Int):=.one ⟨[FA],[none,none]⟩ CQ
def f159.F (n:Nat) (v:Nat × List T × Int):=f159 n v.1 v.2.1 v.2.2
def f159.O (n:Nat):BZ:=AU (E:=E) [f158.w] [f159.l0.W n] n
theorem f159.l0.ok:∀ n,HY 159 Tv 0 n (f159.O n):=Ha f159.l0.P BT f159.l0.A f159.l0.F
theorem f159.ok:CT 159 f159.P Ba f159.A f159.F:=Ce Tv f159.O [An Tv 0] (fun n=>(.cons (f159.l0.ok n) .nil))
def f159.w:BX E:=Bm 159 f159.P Ba f159.A f159.F f159.ok
def f118.l0 (n:Nat):Nat→Nat→List T→Int→Int→Option ((Int) ⊕ (Int))
 | 0,_,_,_,_=>none
 | m+1,n1,l2,i3,i4 =>
   br (decide (i4<(n1:Int))) (
    gd ((decide ((0≤i4)∧(i4<(n1:Int))))&&(Ag [.lst,(.int .i64),(.flt .f32),.bool,.bool] l2 (((Int.toNat i4) * 5)+0))) (
    bd (f159 n (EF l2 (((Int.toNat i4) * 5)+0)) (EN l2 (((Int.toNat i4) * 5)+0)) i3) fun r5 =>
    let i6:=r5
    br (decide (i6<(0:Int))) (
     some (Sum.inl (-1:Int))) (
     gd ((decide ((0≤i4)∧(i4<(n1:Int))))&&(Ag [.lst,(.int .i64),(.flt .f32),.bool,.bool] l2 (((Int.toNat i4) * 5)+0))) (
     br ((DA l2 ((((Int.toNat i4) * 5)+0)+1)) != i6) (
      some (Sum.inl (-1:Int))) (
      let i7:=(IntKind.i64.wrap (i6+(1:Int)))
      gd ((decide ((0≤i4)∧(i4<(n1:Int))))&&(Ag [.lst,(.int .i64),(.flt .f32),.bool,.bool] l2 (((Int.toNat i4) * 5)+0))) (
      br (SE .f32 (JU l2 (((((Int.toNat i4) * 5)+0)+1)+1)) (FloatKind.nearest .f32 i7)) (
       some (Sum.inl (-1:Int))) (
       let i8:=(IntKind.i64.wrap (i7+(1:Int)))
       gd ((decide ((0≤i4)∧(i4<(n1:Int))))&&(Ag [.lst,(.int .i64),(.flt .f32),.bool,.bool] l2 (((Int.toNat i4) * 5)+0))) (
       br (!((KX l2 ((((((Int.toNat i4) * 5)+0)+1)+1)+1))==((Int.tmod i8 (3:Int))==(0:Int)))) (
        some (Sum.inl (-1:Int))) (
        let i9:=(IntKind.i64.wrap (i8+(1:Int)))
        gd ((decide ((0≤i4)∧(i4<(n1:Int))))&&(Ag [.lst,(.int .i64),(.flt .f32),.bool,.bool] l2 (((Int.toNat i4) * 5)+0))) (
        br (!((KX l2 (((((((Int.toNat i4) * 5)+0)+1)+1)+1)+1))==((Int.tmod i9 (3:Int))==(0:Int)))) (
         some (Sum.inl (-1:Int))) (
         let i10:=(IntKind.i64.wrap (i9+(1:Int)))
         f118.l0 n m n1 l2 i10 (IntKind.i64.wrap (i4+(1:Int)))))))))))))) (
    some (Sum.inr i3))
def f118:Nat→Nat→List T→Int→Option (Int)
 | 0,_,_,_=>none
 | n+1,n1,l2,i3 =>
   bd (f118.l0 n n n1 l2 i3 (0:Int)) fun r4 =>
   sm r4 (fun u5 =>
    let i6:=u5
    some i6) (fun u7 =>
    let i8:=u7
    some i8)
def f118.l0.P:AS:=⟨[(0,P6),(1,Ar),(5,Ar)],0⟩
def f118.l0.A:Fa ((Int) ⊕ (Int)):=.or (.one .ret ⟨[(1,.dead),(4,Ar)],0⟩ CQ) (.one (.exit 0) ⟨[(1,Ar),(4,.dead)],0⟩ CQ)
def f118.l0.F (n m:Nat) (v:JG):=let (a,b,c,d):=v;f118.l0 n m a b c d
def f118.l0.W (n:Nat):Gi:=.of 32 f118.l0.P BT f118.l0.A (f118.l0.F n n)
def f118.P:List Ae:=[SP,Bs]
def f118.A:Ak (Int):=.one ⟨[FA],[none,none]⟩ CQ
def f118.F (n:Nat) (v:Nat × List T × Int):=f118 n v.1 v.2.1 v.2.2
def f118.O (n:Nat):BZ:=AU (E:=E) [f159.w] [f118.l0.W n] n
theorem f118.l0.ok:∀ n,HY 118 Sy 0 n (f118.O n):=Ha f118.l0.P BT f118.l0.A f118.l0.F
theorem f118.ok:CT 118 f118.P Ba f118.A f118.F:=Ce Sy f118.O [An Sy 0] (fun n=>(.cons (f118.l0.ok n) .nil))
def f118.w:BX E:=Bm 118 f118.P Ba f118.A f118.F f118.ok
def f59:Nat→Nat→List T→Nat→List T→Int→Option (Int)
 | 0,_,_,_,_,_=>none
 | n+1,n1,l2,n3,l4,i5 =>
   bd (f117 n n1 l2 i5) fun r6 =>
   let i7:=r6
   br (decide (i7<(0:Int))) (
    some (-1:Int)) (
    bd (f118 n n3 l4 i7) fun r8 =>
    let i9:=r8
    br (decide (i9<(0:Int))) (
     some (-1:Int)) (
     some i9))
def f59.P:List Ae:=[MD,Bs]
def f59.A:Ak (Int):=.one ⟨[FA],[none,none]⟩ CQ
def f59.F (n:Nat) (v:Ii):=let (a,b,c,d,e):=v;f59 n a b c d e
def f59.O (n:Nat):BZ:=AU (E:=E) [f117.w,f118.w] [] n
theorem f59.ok:CT 59 f59.P BV f59.A f59.F:=Ce Ym f59.O
def f59.w:BX E:=Bm 59 f59.P BV f59.A f59.F f59.ok
def f10:Nat→Nat→List T→Nat→List T→Int→Int→Option (Bool)
 | 0,_,_,_,_,_,_=>none
 | n+1,n1,l2,n3,l4,i5,i6 =>
   bd (f55 n n1 l2 n3 l4 (1048576:Int)) fun r7 =>
   let i8:=r7
   br (decide (i8<(0:Int))) (
    some true) (
    bd (f56 n n1 l2 n3 l4) fun r9 =>
    let n10:=r9.1
    let l11:=r9.2.1
    let n12:=r9.2.2.1
    let l13:=r9.2.2.2
    bd (f60 n n10 l11 n12 l13 i5 i6) fun r14 =>
    let n15:=r14.1
    let l16:=r14.2.1
    let n17:=r14.2.2.1
    let l18:=r14.2.2.2.1
    let b19:=r14.2.2.2.2
    bd (f56 n n1 l2 n3 l4) fun r20 =>
    let n21:=r20.1
    let l22:=r20.2.1
    let n23:=r20.2.2.1
    let l24:=r20.2.2.2
    bd (f61 n n21 l22 n23 l24 i5 i6) fun r25 =>
    let n26:=r25.1
    let l27:=r25.2.1
    let n28:=r25.2.2.1
    let l29:=r25.2.2.2.1
    let b30:=r25.2.2.2.2
    bd (f57 n n26 l27 n28 l29 n15 l16 n17 l18) fun r31 =>
    let b32:=r31
    br (!b32) (
     some false) (
     br (!(b30==b19)) (
      some false) (
      bd (f56 n n1 l2 n3 l4) fun r33 =>
      let n34:=r33.1
      let l35:=r33.2.1
      let n36:=r33.2.2.1
      let l37:=r33.2.2.2
      bd (f57 n n21 l22 n23 l24 n34 l35 n36 l37) fun r38 =>
      let b39:=r38
      br (!b39) (
       some false) (
       bd (f58 n n21 l22 n23 l24 (1:Int)) fun r40 =>
       let i41:=r40.1
       br (decide (i41<(0:Int))) (
        some false) (
        bd (f57 n n26 l27 n28 l29 n15 l16 n17 l18) fun r46 =>
        let b47:=r46
        br (!b47) (
         some false) (
         br (!(b30==b19)) (
          some false) (
          bd (f58 n n26 l27 n28 l29 (1:Int)) fun r48 =>
          let i49:=r48.1
          let n50:=r48.2.1
          let l51:=r48.2.2.1
          let n52:=r48.2.2.2.1
          let l53:=r48.2.2.2.2
          bd (f59 n n50 l51 n52 l53 (1:Int)) fun r54 =>
          let i55:=r54
          br (decide (i55<(0:Int))) (
           some false) (
           br (i55 != i49) (
            some false) (
            bd (f56 n n1 l2 n3 l4) fun r56 =>
            let n57:=r56.1
            let l58:=r56.2.1
            let n59:=r56.2.2.1
            let l60:=r56.2.2.2
            bd (f61 n n57 l58 n59 l60 i5 i6) fun r61 =>
            let n62:=r61.1
            let l63:=r61.2.1
            let n64:=r61.2.2.1
            let l65:=r61.2.2.2.1
            let b66:=r61.2.2.2.2
            bd (f57 n n62 l63 n64 l65 n15 l16 n17 l18) fun r67 =>
            let b68:=r67
            br (!b68) (
             some false) (
             br (!(b66==b19)) (
              some false) (
              bd (f59 n n50 l51 n52 l53 (1:Int)) fun r69 =>
              let i70:=r69
              br (decide (i70<(0:Int))) (
               some false) (
               br (i70 != i49) (
                some false) (
                some true)))))))))))))
def f10.P:List Ae:=[MD,Bs,Bs]
def f10.A:Ak (Bool):=.one ⟨[CR],[none,none,none]⟩ Bj
def f10.F (n:Nat) (v:RK):=let (a,b,c,d,e,f):=v;f10 n a b c d e f
def f10.O (n:Nat):BZ:=AU (E:=E) [f55.w,f56.w,f60.w,f61.w,f57.w,f58.w,f59.w] [] n
theorem f10.ok:CT 10 f10.P Dv f10.A f10.F:=Ce c10 f10.O
def f10.w:BX E:=Bm 10 f10.P Dv f10.A f10.F f10.ok
end Go.Proofs.Ytdobhipbgpiceaa.D
end
section
namespace Go.Proofs.Ytdobhipbgpiceaa.D
open Go Go.Desk
set_option linter.unusedVariables false
theorem U7 (n k:Nat) (l:List T):f148 (n+1) k l=some (decide ((k:Int)≤256)):=by rw[f148]
theorem Xa (n k:Nat) (l:List T):f66 (n+1) k l=some (decide ((k:Int)≤256)):=by rw[f66]
theorem SI (n:Nat) (a b c:Int):f106 (n+1) a b c=some (decide (b≤a∧a≤c)):=by
 rw[f106]
 by_cases h:b≤a <;>simp[br,h]
theorem Rx (n:Nat) (a b c:Int):f67 (n+1) a b c=some (decide (b≤a∧a≤c)):=by
 rw[f67]
 by_cases h:b≤a <;>simp[br,h]
theorem QD (n:Nat) (xs:List Nat) (h:xs.length≤2147483648):f84 (n+1) xs.length (Bw .f32 xs)=some (xs.length,Bw .f32 xs):=by
 rw[f84,Nat.zero_add,GE h];rfl
theorem Qj (n:Nat) (x:Int):f87 (n+1) x=some x:=by rw[f87]
theorem TW (n:Nat) (x:Nat):f174 (n+1) x=some (Cs x):=by rw[f174,Lq]
def U6 (m:Nat) (xs:List Nat):Nat:=xs.foldl (fun m x=>if Qy .f32 (Dd x) m then Dd x else m) m
def U4 (lim x:Nat):Nat:=if Qy .f32 (Dd x) lim then (if flt .f32 x 0 then Ur .f32 lim else lim) else x
def XI (lim p:Nat):Nat:=if Qy .f32 p lim then fdiv .f32 lim p else 1065353216
def XP (t gn:Nat):Nat:=if flt .f32 t gn then t else if SE .f32 gn gn then t else gn
def NW (lim rise:Nat) (s:Nat × List Nat) (x:Nat):Nat × (Nat × List Nat) :=
 (U4 lim (Co .f32 ((s.2++[x]).getD 0 0) (XP (XI lim (U6 0 (s.2++[x]))) (E9 .f32 s.1 rise))),(XP (XI lim (U6 0 (s.2++[x]))) (E9 .f32 s.1 rise),(s.2++[x]).drop 1))
theorem Re (n:Nat) (lim:Nat):f137 (n+2) lim=some (Cs lim&&Qy .f32 lim 0):=by
 rw[f137,TW]
 cases Cs lim <;>rfl
structure As where
 kind:Int
 len:Int
 nums:List Nat
def CZ (e:As):List T:=[.int .i64 e.kind,.int .i64 e.len,.lst e.nums.length (Bw .f32 e.nums)]
def AD (es:List As):List T:=es.flatMap CZ
def Ay (es:List As) (i:Nat):As:=es.getD i ⟨5,0,[]⟩
theorem Dw {c:Nat} (hc:c<3):∀ (ts:List As) (i:Nat),i<ts.length→(AD ts)[i * 3+c]?=(CZ (Ay ts i))[c]?
 | [],i,h=>by simp at h
 | t::ts,0,_=>by
   show (CZ t++AD ts)[0 * 3+c]?=_
   rw[List.getElem?_append_left (by simp[CZ];omega),Nat.zero_mul,Nat.zero_add];rfl
 | t::ts,i+1,h=>by
   show (CZ t++AD ts)[(i+1) * 3+c]?=_
   rw[List.getElem?_append_right (by simp[CZ];omega),show (i+1) * 3+c - (CZ t).length=i * 3+c by simp[CZ];omega,Dw hc ts i (by simpa using h)]
   rfl
section
variable {ts:List As} {i:Nat} (h:i<ts.length)
include h
theorem NJ:Ag [.int .i64,.int .i64,.lst] (AD ts) (i * 3+0)=true:=by
 have h0:=Dw (c:=0) (by decide) ts i h
 have h1:=Dw (c:=1) (by decide) ts i h
 have h2:=Dw (c:=2) (by decide) ts i h
 simp only[CZ,List.getElem?_cons_zero,List.getElem?_cons_succ] at h0 h1 h2
 rw[Nat.add_zero] at h0
 simp[Ag,Nat.add_assoc,h0,h1,h2,MO]
theorem kE:DA (AD ts) (i * 3+0)=(Ay ts i).kind:=by unfold DA;rw[Dw (c:=0) (by decide) ts i h];rfl
theorem gE:DA (AD ts) (i * 3+0+1)=(Ay ts i).len:=by unfold DA;rw[show i * 3+0+1=i * 3+1 from rfl,Dw (c:=1) (by decide) ts i h];rfl
theorem nE:EF (AD ts) (i * 3+0+1+1)=(Ay ts i).nums.length:=by unfold EF;rw[show i * 3+0+1+1=i * 3+2 from rfl,Dw (c:=2) (by decide) ts i h];rfl
theorem lE:EN (AD ts) (i * 3+0+1+1)=Bw .f32 (Ay ts i).nums:=by unfold EN;rw[show i * 3+0+1+1=i * 3+2 from rfl,Dw (c:=2) (by decide) ts i h];rfl
theorem D6:ts.drop i=Ay ts i::ts.drop (i+1):=by
 rw[drop_eq_getElem_cons h]
 simp[Ay,List.getD,h]
theorem Dg:Ay ts i∈ts:=by
 have:Ay ts i=ts[i]:=by simp[Ay,List.getD,h]
 rw[this];exact List.getElem_mem h
end
theorem Ib (acc:List As) (e:As):AD acc++AT (reps 1 [(T.int .i64 (0:Int)),(T.int .i64 (0:Int)),(T.lst 0 [])]) 0 (CZ e)=AD (acc++[e]):=by
 unfold AD
 rw[flatMap_append,List.flatMap_singleton];rfl
inductive Ef
 | scale (g:Nat)
 | filt (f1 f2 f3 f4 f5:Nat)
 | echo (L:Nat) (p q:Nat)
 | squeeze (p q r s:Nat)
 | clip (g:Nat)
 | bend
 | lim (A:Nat) (l:Nat) (r:Nat)
def Ef.eff:Ef→As
 | .scale g=>⟨0,0,[g]⟩
 | .filt a b c d e=>⟨1,0,[a,b,c,d,e]⟩
 | .echo L p q=>⟨2,(L:Int),[p,q]⟩
 | .squeeze p q r s=>⟨3,0,[p,q,r,s]⟩
 | .clip g=>⟨4,0,[g]⟩
 | .bend=>⟨5,0,[]⟩
 | .lim A l r=>⟨6,(A:Int),[l,r]⟩
def Ef.Ok:Ef→Prop
 | .echo L _ _=>1≤L∧L≤32
 | .lim A l _=>A≤32∧Ps l∧(Cs l&&Qy .f32 l 0)=true
 | .clip g=>Ps g
 | _=>True
def SO (es:List Ef):List As:=es.map (·.eff)
def row (ls:List (List Nat)) (i:Nat):List Nat:=ls.getD i []
section
variable {ls:List (List Nat)} {i:Nat} (h:i<ls.length)
include h
end
theorem Un {ls:List (List Nat)} {i j:Nat} {r:List Nat} (hj:j<ls.length):row (ls.set i r) j=if i=j then r else row ls j:=by
 unfold row
 by_cases h:i=j
 ·subst h;simp[List.getD,hj]
 ·simp[List.getD,h,List.getElem?_set_ne]
def Ef.keep:Ef→Nat
 | .scale _=>0
 | .filt .. =>2
 | .echo L _ _=>L
 | .squeeze .. =>1
 | .clip _=>0
 | .bend=>0
 | .lim A _ _=>A+1
def WK (es:List Ef) (i:Nat):Ef:=es.getD i .bend
theorem J1 (es:List Ef):(SO es).length=es.length:=by simp[SO]
def newRow:Ef→List Nat
 | .lim A k r=>(List.replicate (Ef.lim A k r).keep 0).set 0 1065353216
 | e=>List.replicate e.keep 0
def Wd (es:List Ef) (ls:List (List Nat)):Prop:=ls.length=es.length∧∀ i,i<ls.length→(row ls i).length=(WK es i).keep∧(∀ y∈row ls i,Ps y)
theorem Wd.set {es:List Ef} {ls:List (List Nat)} (h:Wd es ls) {i:Nat} {r:List Nat} (hi:i<ls.length) (hr:r.length=(WK es i).keep) (hw:∀ y∈r,Ps y):Wd es (ls.set i r):=by
 refine ⟨by rw[length_set];exact h.1,fun j hj => ?_⟩
 rw[length_set] at hj
 rw[Un hj]
 by_cases e:i=j
 ·subst e;rw[if_pos rfl];exact ⟨hr,hw⟩
 ·rw[if_neg e];exact h.2 j hj
def YN (x:Nat):Nat:=if Su .f32 x 1065353216=true then 1065353216 else if UE .f32 x 3212836864=true then 3212836864 else Co .f32 x (E8 .f32 1069547520 (Co .f32 1056964608 (Co .f32 x x)))
def Tn (p q:Nat) (w:List Nat) (x:Nat):Nat × List Nat:=(E9 .f32 x (Co .f32 q (U1 w)),Xy w (QP (E9 .f32 x (Co .f32 p (U1 w)))))
section
variable {σ τ α β:Type}
end
def Ef.step:Ef→List Nat→Nat→Nat × List Nat
 | .scale g,_,x=>(Co .f32 x g,[])
 | .filt a b c d e,w,x=>((S5 (a,b,c,d,e) 1 true (w.getD 0 0,w.getD 1 0,0,0) x).1,[(S5 (a,b,c,d,e) 1 true (w.getD 0 0,w.getD 1 0,0,0) x).2.1,(S5 (a,b,c,d,e) 1 true (w.getD 0 0,w.getD 1 0,0,0) x).2.2.1])
 | .echo L p q,w,x=>Tn p q w x
 | .squeeze a r t q,w,x=>((PM a r t q (w.getD 0 0) (x,x)).1,[(PM a r t q (w.getD 0 0) (x,x)).2])
 | .clip g,_,x=>(U4 g x,[])
 | .bend,_,x=>(YN x,[])
 | .lim A k r,w,x=>((NW k r (w.getD 0 0,w.drop 1) x).1,(NW k r (w.getD 0 0,w.drop 1) x).2.1::(NW k r (w.getD 0 0,w.drop 1) x).2.2)
def ZR (e:Ef) (w:List Nat):Prop:=w.length=e.keep∧Yu w
def RH:List Ef→List (List Nat)→Prop
 | e::es,w::ls=>ZR e w∧RH es ls
 | [],[]=>True
 | _,_=>False
theorem RH.len:∀ {es:List Ef} {ls:List (List Nat)},RH es ls→ls.length=es.length
 | [],[],_=>rfl
 | _::_,_::_,h=>by simp[h.2.len]
 | [],_::_,h=>h.elim
 | _::_,[],h=>h.elim
theorem RH.at:∀ {es:List Ef} {ls:List (List Nat)},RH es ls→∀ i,i<es.length→ZR (WK es i) (row ls i)
 | [],[],_,i,hi=>by simp at hi
 | _::_,_::_,h,0,_=>h.1
 | _::_,_::_,h,i+1,hi=>h.2.at i (by simpa using hi)
 | [],_::_,h,_,_=>h.elim
 | _::_,[],h,_,_=>h.elim
theorem Wd.fits:∀ {es:List Ef} {ls:List (List Nat)},Wd es ls→RH es ls
 | [],[],_=>trivial
 | e::es,w::ls,h=>⟨h.2 0 (by simp),Wd.fits ⟨by have:=h.1;simpa using this,fun i hi=>h.2 (i+1) (by simpa using hi)⟩⟩
 | [],_::_,h=>by have:=h.1;simp at this
 | _::_,[],h=>by have:=h.1;simp at this
theorem Ts (n:Nat) (l:Nat):f194 (n+2) l=some (Cs l&&Qy .f32 l 0):=by
 have e:f205 (n+1) l=some (Cs l):=by rw[f205,Lq]
 rw[f194,e]
 cases Cs l <;>rfl
def Gp (e:As):Bool :=
 if e.kind=0∨e.kind=4 then decide (e.len=0∧e.nums.length=1)
 else if e.kind=1 then decide (e.len=0∧e.nums.length=5)
 else if e.kind=2 then decide ((1≤e.len∧e.len≤32)∧e.nums.length=2)
 else if e.kind=3 then decide (e.len=0∧e.nums.length=4)
 else if e.kind=5 then decide (e.len=0∧e.nums.length=0)
 else if e.kind=6 then decide ((0≤e.len∧e.len≤32)∧e.nums.length=2)&&(Cs (e.nums.getD 0 0)&&Qy .f32 (e.nums.getD 0 0) 0)
 else false
theorem WI (n:Nat) (a b:Int) (c:Nat) (l:List T) (lo hi k:Int):f136 (n+2) a b c l lo hi k=some (decide (lo≤b∧b≤hi)&&((c:Int)==k)):=by
 rw[f136,Rx]
 simp only[Aw]
 cases decide (lo≤b∧b≤hi) <;>rfl
theorem LY (k:Int):k=0∨k=1∨k=2∨k=3∨k=4∨k=5∨k=6∨((k==0)=false∧(k==1)=false∧(k==2)=false∧(k==3)=false∧(k==4)=false∧(k==5)=false∧(k==6)=false):=by
 simp only[beq_eq_false_iff_ne];omega
theorem Dt (b:Int) (c:Nat) (k:Nat):(decide ((0:Int)≤b∧b≤0)&&((c:Int)==(k:Int)))=decide (b=0∧c=k):=by
 rw[Bool.eq_iff_iff];simp;omega
theorem WZ (n:Nat) (e:As):f76 (n+4) e.kind e.len e.nums.length (Bw .f32 e.nums)=some (Gp e):=by
 obtain ⟨k,b,l⟩:=e
 rw[f76]
 unfold Gp
 simp only[WI (n+1)]
 rcases LY k with rfl | rfl | rfl | rfl | rfl | rfl | rfl | ⟨h0,h1,h2,h3,h4,h5,h6⟩
 ·have:=Dt b l.length 1
  simp only[beq_self_eq_true,Bc,Aw]
  rw[show ((1:Nat):Int)=1 from rfl] at this
  rw[this];rfl
 ·have:=Dt b l.length 5
  simp only[show ((1:Int)==0)=false from rfl,show ((1:Int)==4)=false from rfl,beq_self_eq_true,Bc,BU,Aw]
  rw[show ((5:Nat):Int)=5 from rfl] at this
  rw[this];rfl
 ·simp only[show ((2:Int)==0)=false from rfl,show ((2:Int)==4)=false from rfl,show ((2:Int)==1)=false from rfl,beq_self_eq_true,Bc,BU,Aw]
  congr 1
  rw[if_neg (by decide),if_neg (by decide),if_pos trivial,Bool.eq_iff_iff];simp;omega
 ·have:=Dt b l.length 4
  simp only[show ((3:Int)==0)=false from rfl,show ((3:Int)==4)=false from rfl,show ((3:Int)==1)=false from rfl,show ((3:Int)==2)=false from rfl,beq_self_eq_true,Bc,BU,Aw]
  rw[show ((4:Nat):Int)=4 from rfl] at this
  rw[this];rfl
 ·have:=Dt b l.length 1
  simp only[show ((4:Int)==0)=false from rfl,beq_self_eq_true,Bc,BU,Aw]
  rw[show ((1:Nat):Int)=1 from rfl] at this
  rw[this];rfl
 ·have:=Dt b l.length 0
  simp only[show ((5:Int)==0)=false from rfl,show ((5:Int)==4)=false from rfl,show ((5:Int)==1)=false from rfl,show ((5:Int)==2)=false from rfl,show ((5:Int)==3)=false from rfl,beq_self_eq_true,Bc,BU,Aw]
  rw[show ((0:Nat):Int)=0 from rfl] at this
  rw[this];rfl
 ·simp only[show ((6:Int)==0)=false from rfl,show ((6:Int)==4)=false from rfl,show ((6:Int)==1)=false from rfl,show ((6:Int)==2)=false from rfl,show ((6:Int)==3)=false from rfl,show ((6:Int)==5)=false from rfl,beq_self_eq_true,Bc,BU,Aw]
  rw[if_neg (by decide),if_neg (by decide),if_neg (by decide),if_neg (by decide),if_neg (by decide),if_pos trivial]
  by_cases hv:(0≤b∧b≤32)∧l.length=2
  ·rw[decide_eq_true hv.1,decide_eq_true hv,show (((l.length:Nat):Int)==2)=true by rw[hv.2];rfl,decide_eq_true (show (0:Int)≤0∧(0:Int)<((l.length:Nat):Int) by omega),HC (by omega)]
   simp only[zA,Bc,CP,Re,Aw,KU,Bool.true_and]
  ·rw[decide_eq_false hv]
   have:(decide (0≤b∧b≤32)&&(((l.length:Nat):Int)==2))=false:=by
    rw[Bool.eq_false_iff];intro h;apply hv;simp at h;omega
   rw[this];rfl
 ·simp only[h0,h1,h2,h3,h4,h5,h6,BU]
  simp only[beq_eq_false_iff_ne] at h0 h1 h2 h3 h4 h5 h6
  rw[if_neg (by simp[h0,h4]),if_neg h1,if_neg h2,if_neg h3,if_neg h5,if_neg h6]
theorem V1 (n:Nat) (e:As):f177 (n+4) e.kind e.len e.nums.length (Bw .f32 e.nums)=some (Gp e):=by
 obtain ⟨k,b,l⟩:=e
 rw[f177]
 unfold Gp
 simp only[SI (n+2)]
 have cut:∀ (lo hi:Int) (c d:Int) (v:Option Bool),f133 (n+3) k b=some (c,d) →
   (bd (some (decide (lo≤b∧b≤hi))) fun r=>br (!r) (some false) (bd (f133 (n+3) k b) fun r7=>br (((l.length:Nat):Int)==r7.1) v (some false)))=br (decide (lo≤b∧b≤hi)&&(((l.length:Nat):Int)==c)) v (some false):=by
  intro lo hi c d v h
  rw[h]
  simp only[Aw]
  cases decide (lo≤b∧b≤hi) <;>rfl
 rcases LY k with rfl | rfl | rfl | rfl | rfl | rfl | rfl | ⟨h0,h1,h2,h3,h4,h5,h6⟩
 ·have c:=cut 0 0 1 0 (some true) (by rw[f133];rfl)
  have:=Dt b l.length 1
  rw[show ((1:Nat):Int)=1 from rfl] at this
  simp only[show ((0:Int)==2)=false from rfl,show ((0:Int)==6)=false from rfl,BU,show ((0:Int) != 6)=true from rfl,Bc]
  refine c.trans ?_
  rw[this]
  show br (decide (b=0∧l.length=1)) (some true) (some false)=some (decide (b=0∧l.length=1))
  cases decide (b=0∧l.length=1) <;>rfl
 ·have c:=cut 0 0 5 2 (some true) (by rw[f133];rfl)
  have:=Dt b l.length 5
  rw[show ((5:Nat):Int)=5 from rfl] at this
  simp only[show ((1:Int)==2)=false from rfl,show ((1:Int)==6)=false from rfl,BU,show ((1:Int) != 6)=true from rfl,Bc]
  refine c.trans ?_
  rw[this]
  show br (decide (b=0∧l.length=5)) (some true) (some false)=some (decide (b=0∧l.length=5))
  cases decide (b=0∧l.length=5) <;>rfl
 ·have c:=cut 1 32 2 b (some true) (by rw[f133];rfl)
  simp only[beq_self_eq_true,show ((2:Int)==6)=false from rfl,BU,show ((2:Int) != 6)=true from rfl,Bc]
  refine c.trans ?_
  have e:(decide (1≤b∧b≤32)&&(((l.length:Nat):Int)==2))=decide ((1≤b∧b≤32)∧l.length=2):=by rw[Bool.eq_iff_iff];simp;omega
  rw[e,if_neg (by decide),if_neg (by decide),if_pos trivial]
  cases decide ((1≤b∧b≤32)∧l.length=2) <;>rfl
 ·have c:=cut 0 0 4 1 (some true) (by rw[f133];rfl)
  have:=Dt b l.length 4
  rw[show ((4:Nat):Int)=4 from rfl] at this
  simp only[show ((3:Int)==2)=false from rfl,show ((3:Int)==6)=false from rfl,BU,show ((3:Int) != 6)=true from rfl,Bc]
  refine c.trans ?_
  rw[this]
  show br (decide (b=0∧l.length=4)) (some true) (some false)=some (decide (b=0∧l.length=4))
  cases decide (b=0∧l.length=4) <;>rfl
 ·have c:=cut 0 0 1 0 (some true) (by rw[f133];rfl)
  have:=Dt b l.length 1
  rw[show ((1:Nat):Int)=1 from rfl] at this
  simp only[show ((4:Int)==2)=false from rfl,show ((4:Int)==6)=false from rfl,BU,show ((4:Int) != 6)=true from rfl,Bc]
  refine c.trans ?_
  rw[this]
  show br (decide (b=0∧l.length=1)) (some true) (some false)=some (decide (b=0∧l.length=1))
  cases decide (b=0∧l.length=1) <;>rfl
 ·have c:=cut 0 0 0 0 (some true) (by rw[f133];rfl)
  have:=Dt b l.length 0
  rw[show ((0:Nat):Int)=0 from rfl] at this
  simp only[show ((5:Int)==2)=false from rfl,show ((5:Int)==6)=false from rfl,BU,show ((5:Int) != 6)=true from rfl,Bc]
  refine c.trans ?_
  rw[this]
  show br (decide (b=0∧l.length=0)) (some true) (some false)=some (decide (b=0∧l.length=0))
  cases decide (b=0∧l.length=0) <;>rfl
 ·have c:=fun v=>cut 0 32 2 (IntKind.i64.wrap (1+b)) v (by rw[f133];rfl)
  simp only[show ((6:Int)==2)=false from rfl,beq_self_eq_true,BU,show ((6:Int) != 6)=false from rfl,Bc]
  refine (c _).trans ?_
  have e:(decide (0≤b∧b≤32)&&(((l.length:Nat):Int)==2))=decide ((0≤b∧b≤32)∧l.length=2):=by rw[Bool.eq_iff_iff];simp;omega
  rw[e,if_neg (by decide),if_neg (by decide),if_neg (by decide),if_neg (by decide),if_neg (by decide),if_pos trivial]
  by_cases hv:(0≤b∧b≤32)∧l.length=2
  ·rw[decide_eq_true hv,decide_eq_true (show (0:Int)≤0∧(0:Int)<((l.length:Nat):Int) by omega),HC (by omega),Ts (n+1)]
   simp only[zA,Bc,CP,Aw,KU,Bool.true_and]
  ·rw[decide_eq_false hv];rfl
 ·have hc:f133 (n+3) k b=some (-1,-1):=by
   rw[f133];simp only[h0,h1,h2,h3,h4,h5,h6,BU]
  have c:=fun v=>cut 0 0 (-1) (-1) v hc
  simp only[h2,h6,BU]
  refine (c _).trans ?_
  simp only[beq_eq_false_iff_ne] at h0 h1 h2 h3 h4 h5 h6
  rw[if_neg (by simp[h0,h4]),if_neg h1,if_neg h2,if_neg h3,if_neg h5,if_neg h6,show (((l.length:Nat):Int) == -1)=false by rw[beq_eq_false_iff_ne];omega,Bool.and_false]
  rfl
def O6 (e:As):Prop:=K8 .i64 e.kind∧K8 .i64 e.len∧(∀ x∈e.nums,Ps x)
theorem Xl {e:As} (h:Gp e=true) (hw:∀ x∈e.nums,Ps x):∃ f:Ef,f.Ok∧f.eff=e:=by
 obtain ⟨k,b,l⟩:=e
 unfold Gp at h
 simp only at h hw
 split at h
 ·rename_i hk
  simp only[decide_eq_true_eq] at h
  obtain ⟨rfl,hl⟩:=h
  match l,hl with
  | [g],_ =>
    rcases hk with rfl | rfl
    ·exact ⟨.scale g,trivial,rfl⟩
    ·exact ⟨.clip g,hw g (by simp),rfl⟩
 ·split at h
  ·rename_i _ hk
   subst hk
   simp only[decide_eq_true_eq] at h
   obtain ⟨rfl,hl⟩:=h
   match l,hl with
   | [a,b,c,d,e],_=>exact ⟨.filt a b c d e,trivial,rfl⟩
  ·split at h
   ·rename_i _ _ hk
    subst hk
    simp only[decide_eq_true_eq] at h
    obtain ⟨⟨h1,h2⟩,hl⟩:=h
    obtain ⟨L,rfl⟩:=Int.eq_ofNat_of_zero_le (show 0≤b by omega)
    match l,hl with
    | [p,q],_=>exact ⟨.echo L p q,⟨by omega,by omega⟩,rfl⟩
   ·split at h
    ·rename_i _ _ _ hk
     subst hk
     simp only[decide_eq_true_eq] at h
     obtain ⟨rfl,hl⟩:=h
     match l,hl with
     | [a,b,c,d],_=>exact ⟨.squeeze a b c d,trivial,rfl⟩
    ·split at h
     ·rename_i _ _ _ _ hk
      subst hk
      simp only[decide_eq_true_eq] at h
      obtain ⟨rfl,hl⟩:=h
      match l,hl with
      | [],_=>exact ⟨.bend,trivial,rfl⟩
     ·split at h
      ·rename_i _ _ _ _ _ hk
       subst hk
       rw[zB,decide_eq_true_eq] at h
       obtain ⟨⟨⟨h1,h2⟩,hl⟩,hlim⟩:=h
       obtain ⟨A,rfl⟩:=Int.eq_ofNat_of_zero_le h1
       match l,hl with
       | [p,q],_=>exact ⟨.lim A p q,⟨by omega,hw p (by simp),hlim⟩,rfl⟩
      ·cases h
def F9 (cs:List As):Bool:=decide (cs.length≤8)&&cs.all Gp
theorem TZ:∀ {cs:List As},cs.all Gp=true→(∀ e∈cs,O6 e)→∃ es:List Ef,SO es=cs∧∀ e∈es,e.Ok
 | [],_,_=>⟨[],rfl,by simp⟩
 | c::cs,h,hw=>by
   simp only[all_cons,zB] at h
   obtain ⟨f,h1,h2⟩:=Xl h.1 (hw c (by simp)).2.2
   obtain ⟨es,h3,h4⟩:=TZ h.2 (fun e he=>hw e (by simp[he]))
   refine ⟨f::es,by simp[SO] at h3 ⊢;exact ⟨h2,h3⟩,fun e he => ?_⟩
   rcases mem_cons.1 he with rfl | he
   ·exact h1
   ·exact h4 e he
theorem Oi {cs:List As} {i:Nat} (h:i<cs.length):(cs.drop i).all Gp=(Gp (Ay cs i)&&(cs.drop (i+1)).all Gp):=by
 rw[D6 h,all_cons]
theorem MG (n:Nat) (N:Nat) (ts:List T) (cs:List As) (hl:cs.length≤100):∀ (j i m:Nat),i+j=cs.length→j<m →
  f23.l0 (n+4) m N ts cs.length (AD cs) (cs.length:Int) (i:Int)=some (if (cs.drop i).all Gp then Sum.inr () else Sum.inl false):=by
 intro j
 induction j with
 | zero =>
   intro i m hi hm
   obtain ⟨m,rfl⟩:=zc m (by omega)
   rw[f23.l0,A2 (by omega),drop_eq_nil_of_le (by omega)];rfl
 | succ j ih =>
   intro i m hi hm
   obtain ⟨m,rfl⟩:=zc m (by omega)
   have h:i<cs.length:=by omega
   rw[f23.l0,BS h,BM h,zT,NJ h,Oi h]
   simp only[Bc,zA,CP,kE h,gE h,nE h,lE h,WZ n (Ay cs i),Aw,Ad (show i<9223372036854775807 by omega)]
   cases Gp (Ay cs i)
   ·rfl
   ·simp only[Bool.not_true,BU,Bool.true_and]
    exact ih (i+1) m (by omega) (by omega)
theorem SQ (n:Nat) (cs:List As) (hn:100<n):f23 (n+5) cs.length (AD cs)=some (F9 cs):=by
 rw[f23]
 unfold F9
 by_cases h:cs.length≤8
 ·have e:=MG n cs.length (AD cs) cs (by omega) cs.length 0 (n+4) (by omega) (by omega)
  have e:f23.l0 (n+4) (n+4) cs.length (AD cs) cs.length (AD cs) (cs.length:Int) 0=_:=e
  rw[decide_eq_false (by omega),e,decide_eq_true h,drop_zero]
  cases cs.all Gp <;>rfl
 ·rw[decide_eq_true (by omega),decide_eq_false h];rfl
theorem MH (n:Nat) (cs:List As) (hl:cs.length≤8):∀ (j i m:Nat),i+j=cs.length→j<m →
  f146.l0 (n+4) m cs.length (AD cs) (i:Int)=some (if (cs.drop i).all Gp then Sum.inr (cs.length,AD cs) else Sum.inl false):=by
 intro j
 induction j with
 | zero =>
   intro i m hi hm
   obtain ⟨m,rfl⟩:=zc m (by omega)
   rw[f146.l0,A2 (by omega),drop_eq_nil_of_le (by omega)];rfl
 | succ j ih =>
   intro i m hi hm
   obtain ⟨m,rfl⟩:=zc m (by omega)
   have h:i<cs.length:=by omega
   rw[f146.l0,BS h,BM h,zT,NJ h,Oi h,decide_eq_true (show (cs.length:Int)≤8 by omega)]
   simp only[Bc,zA,CP,kE h,gE h,nE h,lE h,V1 n (Ay cs i),Aw,Ad (show i<9223372036854775807 by omega)]
   cases Gp (Ay cs i)
   ·rfl
   ·simp only[Bool.not_true,BU,Bool.true_and]
    exact ih (i+1) m (by omega) (by omega)
theorem TF (n:Nat) (cs:List As) (hn:100<n):f146 (n+5) cs.length (AD cs)=some (F9 cs):=by
 rw[f146]
 unfold F9
 by_cases h:cs.length≤8
 ·have e:=MH n cs h cs.length 0 (n+4) (by omega) (by omega)
  have e:f146.l0 (n+4) (n+4) cs.length (AD cs) 0=_:=e
  rw[e,decide_eq_true h,drop_zero]
  cases cs.all Gp
  ·rfl
  ·simp only[if_true,Aw,L2,Bool.true_and,decide_eq_true (show (cs.length:Int)≤8 by omega)]
 ·have e:f146.l0 (n+4) (n+4) cs.length (AD cs) 0=some (Sum.inr (cs.length,AD cs)):=by
   rw[show n+4=(n+3)+1 from rfl,f146.l0,decide_eq_true (show (0:Int)<(cs.length:Int) by omega),decide_eq_false (show ¬ (cs.length:Int)≤8 by omega)]
   rfl
  rw[e,decide_eq_false h]
  simp only[Aw,L2,Bool.false_and,decide_eq_false (show ¬ (cs.length:Int)≤8 by omega)]
structure Ao where
 es:List As
 tn:Int
 pan:Nat
 mute:Bool
 solo:Bool
def PG (s:Ao):List T:=[.lst s.es.length (AD s.es),.int .i64 s.tn,.flt .f32 s.pan,.bool s.mute,.bool s.solo]
def AF (ss:List Ao):List T:=ss.flatMap PG
def A3 (ss:List Ao) (i:Nat):Ao:=ss.getD i ⟨[],0,0,false,false⟩
theorem Dq {c:Nat} (hc:c<5):∀ (ts:List Ao) (i:Nat),i<ts.length→(AF ts)[i * 5+c]?=(PG (A3 ts i))[c]?
 | [],i,h=>by simp at h
 | t::ts,0,_=>by
   show (PG t++AF ts)[0 * 5+c]?=_
   rw[List.getElem?_append_left (by simp[PG];omega),Nat.zero_mul,Nat.zero_add];rfl
 | t::ts,i+1,h=>by
   show (PG t++AF ts)[(i+1) * 5+c]?=_
   rw[List.getElem?_append_right (by simp[PG];omega),show (i+1) * 5+c - (PG t).length=i * 5+c by simp[PG];omega,Dq hc ts i (by simpa using h)]
   rfl
section
variable {ts:List Ao} {i:Nat} (h:i<ts.length)
include h
theorem OW:Ag [.lst,.int .i64,.flt .f32,.bool,.bool] (AF ts) (i * 5+0)=true:=by
 have h0:=Dq (c:=0) (by decide) ts i h
 have h1:=Dq (c:=1) (by decide) ts i h
 have h2:=Dq (c:=2) (by decide) ts i h
 have h3:=Dq (c:=3) (by decide) ts i h
 have h4:=Dq (c:=4) (by decide) ts i h
 simp only[PG,List.getElem?_cons_zero,List.getElem?_cons_succ] at h0 h1 h2 h3 h4
 rw[Nat.add_zero] at h0
 simp[Ag,Nat.add_assoc,h0,h1,h2,h3,h4,MO]
theorem U3:EF (AF ts) (i * 5+0)=(A3 ts i).es.length:=by unfold EF;rw[Dq (c:=0) (by decide) ts i h];rfl
theorem Uv:EN (AF ts) (i * 5+0)=AD (A3 ts i).es:=by unfold EN;rw[Dq (c:=0) (by decide) ts i h];rfl
theorem Ux:DA (AF ts) (i * 5+0+1)=(A3 ts i).tn:=by unfold DA;rw[show i * 5+0+1=i * 5+1 from rfl,Dq (c:=1) (by decide) ts i h];rfl
theorem U9:JU (AF ts) (i * 5+0+1+1)=(A3 ts i).pan:=by unfold JU;rw[show i * 5+0+1+1=i * 5+2 from rfl,Dq (c:=2) (by decide) ts i h];rfl
theorem WH:KX (AF ts) (i * 5+0+1+1+1)=(A3 ts i).mute:=by unfold KX;rw[show i * 5+0+1+1+1=i * 5+3 from rfl,Dq (c:=3) (by decide) ts i h];rfl
theorem VY:KX (AF ts) (i * 5+0+1+1+1+1)=(A3 ts i).solo:=by unfold KX;rw[show i * 5+0+1+1+1+1=i * 5+4 from rfl,Dq (c:=4) (by decide) ts i h];rfl
theorem Kb:ts.drop i=A3 ts i::ts.drop (i+1):=by
 rw[drop_eq_getElem_cons h]
 simp[A3,List.getD,h]
theorem Gn:A3 ts i∈ts:=by
 have:A3 ts i=ts[i]:=by simp[A3,List.getD,h]
 rw[this];exact List.getElem_mem h
end
def KQ (x:Nat):Bool:=Su .f32 x 0&&UE .f32 x 1065353216
def TT (s:Ao):Bool:=F9 s.es&&(decide (-2000≤s.tn∧s.tn≤2000)&&KQ s.pan)
def Tr (n:Nat) (c:As):Bool:=decide (0≤c.kind∧c.kind≤(n:Int) - 1)&&(decide (0≤c.len∧c.len≤256)&&decide (c.nums.length≤256))
def F0 (cl:List As) (ss:List Ao):Bool:=decide (1≤ss.length∧ss.length≤8)&&(decide (cl.length≤12)&&(ss.all TT&&cl.all (Tr ss.length)))
theorem VR (n x:Nat):f144 (n+1) x=some (KQ x):=by
 rw[f144];unfold KQ;cases Su .f32 x 0 <;>rfl
theorem VM (n x:Nat):f178 (n+1) x=some (KQ x):=by
 rw[f178];unfold KQ;cases Su .f32 x 0 <;>rfl
theorem Sh (n:Nat) (t:Int):f143 (n+2) t=some (decide (-2000≤t∧t≤2000)):=by rw[f143,Rx];rfl
theorem UB (n:Nat) (t:Int):f81 (n+2) t=some (decide (0≤t∧t≤256)):=by rw[f81,Rx];rfl
theorem Qv (n:Nat) (t:Int) (k:Nat) (hk:k≤1099511627776):f83 (n+2) t (k:Int)=some (decide (0≤t∧t≤(k:Int) - 1)):=by
 rw[f83,show IntKind.i64.wrap ((k:Int) - 1)=(k:Int) - 1 by rw[A9] <;>omega,Rx];rfl
theorem T5 (n:Nat) (t:Int):f89 (n+2) t=some (decide (1≤t∧t≤8)):=by rw[f89,Rx];rfl
theorem TS {ss:List Ao} {i:Nat} (h:i<ss.length):(ss.drop i).all TT=(TT (A3 ss i)&&(ss.drop (i+1)).all TT):=by
 rw[Kb h,all_cons]
theorem S7 {cs:List As} {i n:Nat} (h:i<cs.length):(cs.drop i).all (Tr n)=(Tr n (Ay cs i)&&(cs.drop (i+1)).all (Tr n)):=by
 rw[D6 h,all_cons]
theorem Rr (n:Nat) (hn:100<n) (N:Nat) (ts:List T) (M:Nat) (us:List T) (ss:List Ao) (hl:ss.length≤100):∀ (j i m:Nat),i+j=ss.length→j<m →
  f101.l0 (n+5) m N ts M us ss.length (AF ss) (ss.length:Int) (i:Int)=some (if (ss.drop i).all TT then Sum.inr (N,ts,M,us) else Sum.inl false):=by
 intro j
 induction j with
 | zero =>
   intro i m hi hm
   obtain ⟨m,rfl⟩:=zc m (by omega)
   rw[f101.l0,A2 (by omega),drop_eq_nil_of_le (by omega)];rfl
 | succ j ih =>
   intro i m hi hm
   obtain ⟨m,rfl⟩:=zc m (by omega)
   have h:i<ss.length:=by omega
   rw[f101.l0,BS h,BM h,zT,OW h,TS h]
   simp only[Bc,zA,CP,U3 h,Uv h,Ux h,U9 h,SQ n (A3 ss i).es hn,Sh (n+3),VR (n+4),Aw,Ad (show i<9223372036854775807 by omega)]
   unfold TT
   cases F9 (A3 ss i).es
   ·rfl
   ·cases decide (-2000≤(A3 ss i).tn∧(A3 ss i).tn≤2000)
    ·rfl
    ·cases KQ (A3 ss i).pan
     ·rfl
     ·simp only[Bool.not_true,BU,Bool.true_and]
      exact ih (i+1) m (by omega) (by omega)
theorem Rn (n:Nat) (N:Nat) (ts:List T) (M:Nat) (us:List T) (hM:M≤1000) (cs:List As) (hl:cs.length≤100):∀ (j i m:Nat),i+j=cs.length→j<m →
  f101.l1 (n+2) m N ts M us cs.length (AD cs) (cs.length:Int) (i:Int)=some (if (cs.drop i).all (Tr M) then Sum.inr () else Sum.inl false):=by
 intro j
 induction j with
 | zero =>
   intro i m hi hm
   obtain ⟨m,rfl⟩:=zc m (by omega)
   rw[f101.l1,A2 (by omega),drop_eq_nil_of_le (by omega)];rfl
 | succ j ih =>
   intro i m hi hm
   obtain ⟨m,rfl⟩:=zc m (by omega)
   have h:i<cs.length:=by omega
   have e3:decide (((Ay cs i).nums.length:Int)≤256)=decide ((Ay cs i).nums.length≤256):=by rw[decide_eq_decide];omega
   rw[f101.l1,BS h,BM h,zT,NJ h,S7 h]
   simp only[Bc,zA,CP,kE h,gE h,nE h,lE h,Qv n (Ay cs i).kind M (by omega),UB n,Xa,e3,Aw,Ad (show i<9223372036854775807 by omega)]
   unfold Tr
   cases decide (0≤(Ay cs i).kind∧(Ay cs i).kind≤(M:Int) - 1)
   ·rfl
   ·cases decide (0≤(Ay cs i).len∧(Ay cs i).len≤256)
    ·rfl
    ·cases decide ((Ay cs i).nums.length≤256)
     ·rfl
     ·simp only[Bool.not_true,BU,Bool.true_and]
      exact ih (i+1) m (by omega) (by omega)
theorem Qp (n:Nat) (cl:List As) (ss:List Ao) (hn:200<n):f101 (n+6) cl.length (AD cl) ss.length (AF ss)=some (F0 cl ss):=by
 rw[f101,Qj (n+4)]
 simp only[Aw,T5 (n+3)]
 unfold F0
 by_cases h1:1≤ss.length∧ss.length≤8
 ·rw[decide_eq_true h1,decide_eq_true (show (1:Int)≤(ss.length:Int)∧(ss.length:Int)≤8 by omega)]
  by_cases h2:cl.length≤12
  ·rw[decide_eq_true h2,decide_eq_false (show ¬ (cl.length:Int)>12 by omega)]
   have e1:=Rr n (by omega) cl.length (AD cl) ss.length (AF ss) ss (by omega) ss.length 0 (n+5) (by omega) (by omega)
   have e1:f101.l0 (n+5) (n+5) cl.length (AD cl) ss.length (AF ss) ss.length (AF ss) (ss.length:Int) 0=_:=e1
   have e2:=Rn (n+3) cl.length (AD cl) ss.length (AF ss) (by omega) cl (by omega) cl.length 0 (n+5) (by omega) (by omega)
   have e2:f101.l1 (n+5) (n+5) cl.length (AD cl) ss.length (AF ss) cl.length (AD cl) (cl.length:Int) 0=_:=e2
   simp only[Bool.not_true,BU,e1,drop_zero,Bool.true_and]
   cases ss.all TT
   ·rfl
   ·simp only[if_true,Aw,L2,e2,drop_zero,Bool.true_and]
    cases cl.all (Tr ss.length) <;>rfl
  ·rw[decide_eq_false h2,decide_eq_true (show (cl.length:Int)>12 by omega)];rfl
 ·rw[decide_eq_false h1,decide_eq_false (show ¬ ((1:Int)≤(ss.length:Int)∧(ss.length:Int)≤8) by omega)];rfl
theorem ST (n:Nat) (a:Nat) (b:List T) (c:Int) (d:Nat) (e f:Bool) (g:Nat) (h:List T):∃ x y,f145 (n+1) a b c d e f g h=some (g,h,c,d,e,f,x,y):=by
 rw[f145];exact ⟨_,_,rfl⟩
theorem R6 (n:Nat) (hn:10<n) (c:Int) (d:Nat) (e f:Bool):f147 (n+2) 1 (AT (reps 1 [(T.lst 0 []),(T.int .i64 (0:Int)),(T.flt .f32 0),(T.bool false),(T.bool false)]) 0 [(T.lst 0 (reps 0 [(T.flt .f32 0)])),(T.int .i64 c),(T.flt .f32 d),(T.bool e),(T.bool f)])=some (decide (-2000≤c∧c≤2000)&&KQ d):=by
 obtain ⟨n,rfl⟩:∃ k,n=k+2:=⟨n - 2,by omega⟩
 have hs:AT (reps 1 [(T.lst 0 []),(T.int .i64 (0:Int)),(T.flt .f32 0),(T.bool false),(T.bool false)]) 0 [(T.lst 0 (reps 0 [(T.flt .f32 0)])),(T.int .i64 c),(T.flt .f32 d),(T.bool e),(T.bool f)]=[(T.lst 0 []),(T.int .i64 c),(T.flt .f32 d),(T.bool e),(T.bool f)]:=rfl
 have l1:f147.l0 (n+2+1) (n+2+1) 1 [(T.lst 0 []),(T.int .i64 c),(T.flt .f32 d),(T.bool e),(T.bool f)] ((1:Nat):Int) 0=some (if decide (-2000≤c∧c≤2000)&&KQ d then Sum.inr (1,[(T.lst 0 []),(T.int .i64 c),(T.flt .f32 d),(T.bool e),(T.bool f)]) else Sum.inl false):=by
  rw[f147.l0]
  have k0:decide ((0:Int)<((1:Nat):Int))=true:=rfl
  have k1:decide ((0:Int)≤0∧(0:Int)<((1:Nat):Int))=true:=rfl
  have k2:Ag [.lst,.int .i64,.flt .f32,.bool,.bool] [(T.lst 0 []),(T.int .i64 c),(T.flt .f32 d),(T.bool e),(T.bool f)] (Int.toNat 0 * 5+0)=true:=rfl
  have k3:EF [(T.lst 0 []),(T.int .i64 c),(T.flt .f32 d),(T.bool e),(T.bool f)] (Int.toNat 0 * 5+0)=0:=rfl
  have k4:DA [(T.lst 0 []),(T.int .i64 c),(T.flt .f32 d),(T.bool e),(T.bool f)] (Int.toNat 0 * 5+0+1)=c:=rfl
  have k5:JU [(T.lst 0 []),(T.int .i64 c),(T.flt .f32 d),(T.bool e),(T.bool f)] (Int.toNat 0 * 5+0+1+1)=d:=rfl
  rw[k0,k1,k2,k3,k4,k5]
  simp only[Bc,zA,CP,U7,Aw,SI,VM]
  cases decide (-2000≤c∧c≤2000)
  ·rfl
  ·cases KQ d
   ·rfl
   ·show f147.l0 (n+2+1) (n+2) 1 _ ((1:Nat):Int) 1=_
    rw[f147.l0];rfl
 rw[hs,f147,l1]
 cases decide (-2000≤c∧c≤2000)&&KQ d <;>rfl
theorem RT (n:Nat) (hn:100<n) (N:Nat) (ts:List T) (i5:Int) (ss:List Ao) (hl:ss.length≤100):∀ (j i m:Nat),i+j=ss.length→j<m →
  f105.l0 (n+5) m N ts ss.length (AF ss) i5 (ss.length:Int) (i:Int)=some (if (ss.drop i).all TT then Sum.inr (N,ts,ss.length,AF ss,i5) else Sum.inl false):=by
 intro j
 induction j with
 | zero =>
   intro i m hi hm
   obtain ⟨m,rfl⟩:=zc m (by omega)
   rw[f105.l0,A2 (by omega),drop_eq_nil_of_le (by omega)];rfl
 | succ j ih =>
   intro i m hi hm
   obtain ⟨m,rfl⟩:=zc m (by omega)
   have h:i<ss.length:=by omega
   rw[f105.l0,BS h,BM h,zT,OW h,TS h]
   simp only[Bc,zA,CP,U3 h,Uv h,Ux h,U9 h,WH h,VY h]
   obtain ⟨x,y,e1⟩:=ST (n+4) (A3 ss i).es.length (AD (A3 ss i).es) (A3 ss i).tn (A3 ss i).pan (A3 ss i).mute (A3 ss i).solo 0 (reps 0 [(T.flt .f32 0)])
   rw[e1]
   have e2:=R6 (n+3) (by omega) (A3 ss i).tn (A3 ss i).pan (A3 ss i).mute (A3 ss i).solo
   simp only[Aw,TF n (A3 ss i).es hn,e2,Ad (show i<9223372036854775807 by omega)]
   unfold TT
   cases F9 (A3 ss i).es
   ·rfl
   ·cases decide (-2000≤(A3 ss i).tn∧(A3 ss i).tn≤2000)&&KQ (A3 ss i).pan
    ·rfl
    ·simp only[Bool.not_true,BU,Bool.true_and]
     exact ih (i+1) m (by omega) (by omega)
theorem SD (n:Nat) (N:Nat) (ts:List T) (M:Nat) (hM:M≤1000) (cs:List As) (hl:cs.length≤100):∀ (j i m:Nat),i+j=cs.length→j<m →
  f105.l1 (n+2) m cs.length (AD cs) N ts (M:Int) (cs.length:Int) (i:Int)=some (if (cs.drop i).all (Tr M) then Sum.inr () else Sum.inl false):=by
 intro j
 induction j with
 | zero =>
   intro i m hi hm
   obtain ⟨m,rfl⟩:=zc m (by omega)
   rw[f105.l1,A2 (by omega),drop_eq_nil_of_le (by omega)];rfl
 | succ j ih =>
   intro i m hi hm
   obtain ⟨m,rfl⟩:=zc m (by omega)
   have h:i<cs.length:=by omega
   have e3:decide (((Ay cs i).nums.length:Int)≤256)=decide ((Ay cs i).nums.length≤256):=by rw[decide_eq_decide];omega
   rw[f105.l1,BS h,BM h,zT,NJ h,S7 h,show IntKind.i64.wrap ((M:Int) - 1)=(M:Int) - 1 by rw[A9] <;>omega]
   simp only[Bc,zA,CP,kE h,gE h,nE h,lE h,SI (n+1),U7,e3,Aw,Ad (show i<9223372036854775807 by omega)]
   unfold Tr
   cases decide (0≤(Ay cs i).kind∧(Ay cs i).kind≤(M:Int) - 1)
   ·rfl
   ·cases decide (0≤(Ay cs i).len∧(Ay cs i).len≤256)
    ·rfl
    ·cases decide ((Ay cs i).nums.length≤256)
     ·rfl
     ·simp only[Bool.not_true,BU,Bool.true_and]
      exact ih (i+1) m (by omega) (by omega)
theorem Qq (n:Nat) (cl:List As) (ss:List Ao) (hn:200<n):f105 (n+6) cl.length (AD cl) ss.length (AF ss)=some (F0 cl ss):=by
 rw[f105]
 simp only[Aw,SI (n+4)]
 unfold F0
 by_cases h1:1≤ss.length∧ss.length≤8
 ·rw[decide_eq_true h1,decide_eq_true (show (1:Int)≤(ss.length:Int)∧(ss.length:Int)≤8 by omega)]
  by_cases h2:cl.length≤12
  ·rw[decide_eq_true h2,decide_eq_false (show ¬ (cl.length:Int)>12 by omega)]
   have e1:=RT n (by omega) cl.length (AD cl) (ss.length:Int) ss (by omega) ss.length 0 (n+5) (by omega) (by omega)
   have e1:f105.l0 (n+5) (n+5) cl.length (AD cl) ss.length (AF ss) (ss.length:Int) (ss.length:Int) 0=_:=e1
   have e2:=SD (n+3) ss.length (AF ss) ss.length (by omega) cl (by omega) cl.length 0 (n+5) (by omega) (by omega)
   have e2:f105.l1 (n+5) (n+5) cl.length (AD cl) ss.length (AF ss) (ss.length:Int) (cl.length:Int) 0=_:=e2
   simp only[Bool.not_true,BU,e1,drop_zero,Bool.true_and]
   cases ss.all TT
   ·rfl
   ·simp only[if_true,Aw,L2,e2,drop_zero,Bool.true_and]
    cases cl.all (Tr ss.length) <;>rfl
  ·rw[decide_eq_false h2,decide_eq_true (show (cl.length:Int)>12 by omega)];rfl
 ·rw[decide_eq_false h1,decide_eq_false (show ¬ ((1:Int)≤(ss.length:Int)∧(ss.length:Int)≤8) by omega)];rfl
structure ZL (cl:List As) (ss:List Ao):Prop where
 n:1≤ss.length∧ss.length≤8
 c:cl.length≤12
 s:∀ s∈ss,F9 s.es=true∧(-2000≤s.tn∧s.tn≤2000)∧KQ s.pan=true
 k:∀ c∈cl,(0≤c.kind∧c.kind≤(ss.length:Int) - 1)∧(0≤c.len∧c.len≤256)∧c.nums.length≤256
theorem RB {cl:List As} {ss:List Ao} (h:F0 cl ss=true):ZL cl ss:=by
 unfold F0 at h
 simp only[zB,decide_eq_true_eq,all_eq_true] at h
 obtain ⟨h1,h2,h3,h4⟩:=h
 refine ⟨h1,h2,fun s hs => ?_,fun c hc => ?_⟩
 ·have:=h3 s hs
  unfold TT at this
  simp only[zB,decide_eq_true_eq] at this
  exact ⟨this.1,this.2.1,this.2.2⟩
 ·have:=h4 c hc
  unfold Tr at this
  simp only[zB,decide_eq_true_eq] at this
  exact ⟨this.1,this.2.1,this.2.2⟩
structure Pg (cl:List As) (ss:List Ao):Prop where
 c:∀ c∈cl,O6 c
 s:∀ s∈ss,(∀ e∈s.es,O6 e)∧K8 .i64 s.tn∧Ps s.pan
theorem Rg {cl:List As} {ss:List Ao} (h:ZL cl ss) (hg:Pg cl ss) {s:Ao} (hs:s∈ss):∃ es:List Ef,SO es=s.es∧(∀ e∈es,e.Ok)∧es.length≤8:=by
 have h1:=(h.s s hs).1
 unfold F9 at h1
 simp only[zB,decide_eq_true_eq] at h1
 obtain ⟨es,e1,e2⟩:=TZ h1.2 (hg.s s hs).1
 exact ⟨es,e1,e2,by rw[← J1,e1];exact h1.1⟩
theorem RR (n:Nat) (xs:List Nat) (hx:xs.length≤1048576):∀ (j i m:Nat) (ys:List Nat),ys.length=xs.length→i+j=xs.length→j<m →
  f181.l0 n m xs.length (Bw .f32 xs) xs.length (Bw .f32 (xs.take i++ys.drop i)) (i:Int)=some (xs.length,Bw .f32 xs):=by
 intro j
 induction j with
 | zero =>
   intro i m ys hl hi hm
   obtain ⟨m,rfl⟩:=zc m (by omega)
   rw[f181.l0,A2 (by omega)]
   simp only[br]
   rw[take_of_length_le (by omega),drop_eq_nil_of_le (by omega),append_nil]
 | succ j ih =>
   intro i m ys hl hi hm
   obtain ⟨m,rfl⟩:=zc m (by omega)
   have hlt:i<xs.length:=by omega
   rw[f181.l0,BS hlt,BM hlt,zT,HC hlt,Ad (by omega)]
   have hlen:Nat.ble (i+1) (Bw .f32 (xs.take i++ys.drop i)).length=true:=by
    rw[Nat.ble_eq,Le];simp;omega
   rw[hlen]
   simp only[br,gd,zA]
   rw[Gt,KU,Q3]
   have:xs.getD i 0=xs[i]:=by simp[List.getD,hlt]
   rw[this,C0 hlt hl]
   exact ih (i+1) m ys hl (by omega) (by omega)
theorem SS (n:Nat) (xs:List Nat) (hx:xs.length≤1048576) (hn:xs.length<n):f181 (n+1) xs.length (Bw .f32 xs)=some (xs.length,Bw .f32 xs):=by
 rw[f181]
 have h:=RR n xs hx xs.length 0 n (List.replicate xs.length 0) (by simp) (by omega) hn
 rw[take_zero,drop_zero,nil_append] at h
 have e:decide ((0:Int)≤((xs.length:Nat):Int)∧((xs.length:Nat):Int)≤(2147483648:Int))=true:=by simp;omega
 rw[Tt,e]
 simp only[gd]
 rw[show ((0:Nat):Int)=0 from rfl] at h
 rw[h];rfl
theorem Mi (n y:Nat):f185 (n+1) y y=some true:=by
 unfold f185
 simp only[Ql]
 cases h:Pj FloatKind.f64 y y
 ·simp[br]
 ·cases h0:Pj FloatKind.f64 y 0 <;>simp[br]
theorem UT (n:Nat) (xs:List Nat) (hx:xs.length≤2147483648):∀ (j i m:Nat),i+j=xs.length→j<m →
  f183.l0 (n+1) m xs.length (Bw .f32 xs) xs.length (Bw .f32 xs) (i:Int)=some (Sum.inr ()):=by
 intro j
 induction j with
 | zero =>
   intro i m hi hm
   obtain ⟨m,rfl⟩:=zc m (by omega)
   rw[f183.l0,A2 (by omega)]
   rfl
 | succ j ih =>
   intro i m hi hm
   obtain ⟨m,rfl⟩:=zc m (by omega)
   have hlt:i<xs.length:=by omega
   rw[f183.l0,BS hlt,BM hlt,zT,HC hlt,Ad (by omega),He]
   simp only[br,gd,bd,zA,Mi,Bool.not_true]
   exact ih (i+1) m (by omega) (by omega)
theorem Q6 (n:Nat) (xs:List Nat) (hx:xs.length≤2147483648) (hn:xs.length<n+1):f183 (n+2) xs.length (Bw .f32 xs) xs.length (Bw .f32 xs)=some true:=by
 rw[f183]
 have h:=UT n xs hx xs.length 0 (n+1) (by omega) hn
 rw[show ((0:Nat):Int)=0 from rfl] at h
 rw[h,show (((xs.length:Nat):Int) != ((xs.length:Nat):Int))=false by simp]
 rfl
theorem Oa (n:Nat) (xs:List Nat) (hx:xs.length≤2147483648) (s:Int) (hs:0≤s) (hs':s≤1099511627776):∀ (j i m:Nat),i+j=xs.length→j<m →
  f156.l0 n m xs.length (Bw .f32 ((Af .f32 s xs.length).take i++xs.drop i)) (s+(i:Int)) (i:Int)=some (xs.length,Bw .f32 (Af .f32 s xs.length),s+(xs.length:Int)):=by
 intro j
 induction j with
 | zero =>
   intro i m hi hm
   obtain ⟨m,rfl⟩:=zc m (by omega)
   have hi:i=xs.length:=by omega
   subst hi
   rw[f156.l0,A2 (by omega)]
   simp only[br]
   rw[take_of_length_le (by rw[BI];omega),drop_eq_nil_of_le (by omega),append_nil]
 | succ j ih =>
   intro i m hi hm
   obtain ⟨m,rfl⟩:=zc m (by omega)
   have hlt:i<xs.length:=by omega
   have hlt':i<(Af .f32 s xs.length).length:=by rw[BI];exact hlt
   have hlen:Nat.ble (i+1) (Bw .f32 ((Af .f32 s xs.length).take i++xs.drop i)).length=true:=by
    apply GE
    rw[Le,length_append,length_take,length_drop,BI];omega
   rw[f156.l0,BS hlt,BM hlt,zT,Ad (by omega),hlen]
   simp only[br,gd]
   rw[Gt,Q3,show IntKind.i64.wrap (s+(i:Int)+1)=s+((i+1:Nat):Int) by rw[A9] <;>omega,← RJ hlt',C0 hlt' (by rw[BI])]
   exact ih (i+1) m (by omega) (by omega)
theorem Sj (n:Nat) (xs:List Nat) (hx:xs.length≤2147483648) (s:Int) (hs:0≤s) (hs':s≤1099511627776) (hn:xs.length<n) :
  f156 (n+1) xs.length (Bw .f32 xs) s=some (s+(xs.length:Int),xs.length,Bw .f32 (Af .f32 s xs.length)):=by
 rw[f156]
 have h:=Oa n xs hx s hs hs' xs.length 0 n (by omega) hn
 rw[take_zero,drop_zero,nil_append,show ((0:Nat):Int)=0 from rfl,Int.add_zero] at h
 rw[h];rfl
theorem OH (n l:Nat) (hx:l≤2147483648) (s:Int) (hs:0≤s) (hs':s≤1099511627776):∀ (j i m:Nat),i+j=l→j<m →
  f158.l0 n m l (Bw .f32 (Af .f32 s l)) (s+(i:Int)) (i:Int)=some (Sum.inr (s+(l:Int))):=by
 intro j
 induction j with
 | zero =>
   intro i m hi hm
   obtain ⟨m,rfl⟩:=zc m (by omega)
   have hi:i=l:=by omega
   subst hi
   rw[f158.l0,A2 (by omega)]
   rfl
 | succ j ih =>
   intro i m hi hm
   obtain ⟨m,rfl⟩:=zc m (by omega)
   have hlt:i<l:=by omega
   rw[f158.l0,BS hlt,BM hlt,zT,Ad (by omega),HC (by rw[BI];exact hlt),KU,Pl hlt,J3,
    show IntKind.i64.wrap (s+(i:Int)+1)=s+((i+1:Nat):Int) by rw[A9] <;>omega]
   simp only[br,gd,zA]
   exact ih (i+1) m (by omega) (by omega)
theorem SL (n l:Nat) (hx:l≤2147483648) (s:Int) (hs:0≤s) (hs':s≤1099511627776) (hn:l<n) :
  f158 (n+1) l (Bw .f32 (Af .f32 s l)) s=some (s+(l:Int)):=by
 rw[f158]
 have h:=OH n l hx s hs hs' l 0 n (by omega) hn
 rw[show ((0:Nat):Int)=0 from rfl,Int.add_zero] at h
 rw[h];rfl
theorem CC {α:Type} {f:α→List T} {w:Nat} (hf:∀ x,(f x).length=w) (d:α):∀ (ts:List α) (i c:Nat) (v:T) (y:α),i<ts.length→c<w→f y=(f (ts.getD i d)).set c v→(ts.flatMap f).set (i * w+c) v=(ts.set i y).flatMap f
 | [],i,c,v,y,h,_,_=>by simp at h
 | t::ts,0,c,v,y,_,hc,hy=>by
   simp only[flatMap_cons,List.set_cons_zero,Nat.zero_mul,Nat.zero_add]
   rw[List.set_append_left _ _ (by rw[hf];exact hc),hy];rfl
 | t::ts,i+1,c,v,y,h,hc,hy=>by
   simp only[flatMap_cons,List.set_cons_succ]
   have e:(i+1) * w+c=w+(i * w+c):=by rw[Nat.add_mul];omega
   rw[List.set_append_right _ _ (by rw[hf,e];omega),hf,show (i+1) * w+c - w=i * w+c by omega,CC hf d ts i c v y (by simpa using h) hc (by simpa using hy)]
theorem DN (e:As):(CZ e).length=3:=rfl
theorem C5 (s:Ao):(PG s).length=5:=rfl
theorem DB (ts:List As):(AD ts).length=3 * ts.length:=by
 unfold AD
 induction ts with
 | nil=>rfl
 | cons t ts ih=>rw[flatMap_cons,length_append,ih,DN,length_cons];omega
theorem Ic (ts:List Ao):(AF ts).length=5 * ts.length:=by
 unfold AF
 induction ts with
 | nil=>rfl
 | cons t ts ih=>rw[flatMap_cons,length_append,ih,C5,length_cons];omega
theorem Qn {ts:List As} {i:Nat} (h:i<ts.length) (e:As):AT (AD ts) (i * 3+0) [.int .i64 e.kind,.int .i64 e.len,.lst e.nums.length (Bw .f32 e.nums)]=AD (ts.set i e):=by
 show (((AD ts).set (i * 3+0) _).set (i * 3+0+1) _).set (i * 3+0+1+1) _=_
 unfold AD
 rw[CC DN ⟨5,0,[]⟩ ts i 0 (.int .i64 e.kind) ⟨e.kind,(Ay ts i).len,(Ay ts i).nums⟩ h (by decide) rfl,
  show i * 3+0+1=i * 3+1 from rfl,CC DN ⟨5,0,[]⟩ _ i 1 (.int .i64 e.len) ⟨e.kind,e.len,(Ay ts i).nums⟩ (by simpa using h) (by decide) (by simp[List.getD,h];rfl),
  show i * 3+1+1=i * 3+2 from rfl,CC DN ⟨5,0,[]⟩ _ i 2 (.lst e.nums.length (Bw .f32 e.nums)) e (by simpa using h) (by decide) (by simp[List.getD,h];rfl)]
 simp
theorem WC {ts:List Ao} {i:Nat} (h:i<ts.length) (s:Ao):AT (AF ts) (i * 5+0) [.lst s.es.length (AD s.es),.int .i64 s.tn,.flt .f32 s.pan,.bool s.mute,.bool s.solo]=AF (ts.set i s):=by
 show (((((AF ts).set (i * 5+0) _).set (i * 5+0+1) _).set (i * 5+0+1+1) _).set (i * 5+0+1+1+1) _).set (i * 5+0+1+1+1+1) _=_
 unfold AF
 rw[CC C5 ⟨[],0,0,false,false⟩ ts i 0 (.lst s.es.length (AD s.es)) ⟨s.es,(A3 ts i).tn,(A3 ts i).pan,(A3 ts i).mute,(A3 ts i).solo⟩ h (by decide) rfl,
  show i * 5+0+1=i * 5+1 from rfl,CC C5 ⟨[],0,0,false,false⟩ _ i 1 (.int .i64 s.tn) ⟨s.es,s.tn,(A3 ts i).pan,(A3 ts i).mute,(A3 ts i).solo⟩ (by simpa using h) (by decide) (by simp[List.getD,h];rfl),
  show i * 5+1+1=i * 5+2 from rfl,CC C5 ⟨[],0,0,false,false⟩ _ i 2 (.flt .f32 s.pan) ⟨s.es,s.tn,s.pan,(A3 ts i).mute,(A3 ts i).solo⟩ (by simpa using h) (by decide) (by simp[List.getD,h];rfl),
  show i * 5+2+1=i * 5+3 from rfl,CC C5 ⟨[],0,0,false,false⟩ _ i 3 (.bool s.mute) ⟨s.es,s.tn,s.pan,s.mute,(A3 ts i).solo⟩ (by simpa using h) (by decide) (by simp[List.getD,h];rfl),
  show i * 5+3+1=i * 5+4 from rfl,CC C5 ⟨[],0,0,false,false⟩ _ i 4 (.bool s.solo) s (by simpa using h) (by decide) (by simp[List.getD,h];rfl)]
 simp
theorem Mo (n:Nat):reps n [(T.int .i64 (0:Int)),(T.int .i64 (0:Int)),(T.lst 0 [])]=AD (List.replicate n ⟨0,0,[]⟩):=by
 induction n with
 | zero=>rfl
 | succ n ih=>rw[replicate_succ,show AD (⟨0,0,[]⟩::List.replicate n ⟨0,0,[]⟩)=CZ ⟨0,0,[]⟩++AD (List.replicate n ⟨0,0,[]⟩) from rfl,← ih];rfl
theorem QU (n:Nat):reps n [(T.lst 0 []),(T.int .i64 (0:Int)),(T.flt .f32 0),(T.bool false),(T.bool false)]=AF (List.replicate n ⟨[],0,0,false,false⟩):=by
 induction n with
 | zero=>rfl
 | succ n ih=>rw[replicate_succ,show AF (⟨[],0,0,false,false⟩::List.replicate n ⟨[],0,0,false,false⟩)=PG ⟨[],0,0,false,false⟩++AF (List.replicate n ⟨[],0,0,false,false⟩) from rfl,← ih];rfl
def Hp:List As→Nat
 | []=>0
 | e::es=>1+e.nums.length+Hp es
def HX:List Ao→Nat
 | []=>0
 | s::ss=>1+Hp s.es+HX ss
theorem ND:∀ (es:List As),es.length≤Hp es
 | []=>Nat.le_refl _
 | e::es=>by have:=ND es;simp only[length_cons,Hp];omega
theorem Nm:∀ (es:List As) (e:As),e∈es→e.nums.length≤Hp es
 | e::es,f,h=>by
   rcases mem_cons.1 h with rfl | h
   ·simp only[Hp];omega
   ·have:=Nm es f h;simp only[Hp];omega
theorem Or:∀ (es:List Ao),es.length≤HX es
 | []=>Nat.le_refl _
 | e::es=>by have:=Or es;simp only[length_cons,HX];omega
theorem RA:∀ (es:List Ao) (s:Ao),s∈es→Hp s.es≤HX es
 | e::es,f,h=>by
   rcases mem_cons.1 h with rfl | h
   ·simp only[HX];omega
   ·have:=RA es f h;simp only[HX];omega
def Ga:List As→Nat
 | []=>0
 | e::es=>e.nums.length+Ga es
end Go.Proofs.Ytdobhipbgpiceaa.D
end
