/- FnFrozen holds: for every input the law returns true, and its arguments read as before. -/
import Derived.Test.YtdobhipbgpiceaaGreatChecked
import Derived.KernelRfl
import Derived.Shelf.SlicesE.Kit
import Derived.Shelf.RegionOpenPlain
import Derived.WalkKit
import Derived.Deep.LoopGhost
import Derived.Deep.RegionLaw
import Derived.Deep.MidRow
import Derived.Lib.Walk
import Derived.Sort.WalkB12
import Derived.Lib.SliceRun
import Derived.Lib.SlicesDelete
import Derived.Lib.SlicesMore
import Derived.Lib.SlicesCompact
import Derived.Test.YtdobhipbgpiceaaGreatRows
import Derived.ProofKit
import Derived.OpenShut
import Derived.ShutString
import Derived.ChangeOld
import Derived.Below
import Derived.SizedLaws
import Derived.Test.YtdobhipbgpiceaaGreatM5c
set_option linter.all false
set_option linter.unusedVariables false
open List (all_cons all_eq_true any_cons any_eq_false any_eq_true any_map append_assoc append_nil cons_append count_append drop_drop drop_eq_getElem_cons drop_eq_nil_of_le drop_left' drop_zero filter_cons_of_neg filter_cons_of_pos flatMap_append flatMap_cons flatMap_def flatMap_singleton flatten_cons flatten_nil foldl_cons length_append length_cons length_drop length_eq_one_iff length_eq_zero_iff length_map length_nil length_replicate length_set length_singleton length_take mapM_cons map_append map_congr_left map_cons map_map map_nil mem_append mem_append_left mem_cons mem_cons_of_mem mem_cons_self mem_filter mem_flatten mem_map mem_of_mem_drop mem_or_eq_of_mem_set mem_range mem_replicate mem_singleton nil_append nodup_append nodup_cons not_mem_nil perm_append_comm perm_iff_count perm_middle replicate_succ take_append_drop take_left' take_length take_of_length_le take_succ_cons take_zero)
section
namespace Go.Desk
open Go
def p2 (e:Int):Rat:=(2:Rat) ^ e
theorem LG (e:Int):0<p2 e:=Rat.zpow_pos (by decide)
theorem Hf (a b:Int):p2 (a+b)=p2 a * p2 b:=Rat.zpow_add (by decide) a b
theorem Cp:p2 0=1:=Rat.zpow_zero _
theorem LH (n:Nat):p2 (n:Int)=((2 ^ n:Nat):Rat):=by
 induction n with
 | zero=>exact Cp
 | succ n ih =>
   rw[show ((n+1:Nat):Int)=(n:Int)+1 by omega,Hf,ih,Nat.pow_succ,Rat.natCast_mul,show p2 1=(2:Rat) from Rat.zpow_one _]
   rfl
theorem RC (n:Nat):1≤p2 (n:Int):=by
 rw[LH]
 have:1≤2 ^ n:=Nat.one_le_two_pow
 exact_mod_cast this
theorem It {a b:Int} (h:a≤b):p2 a≤p2 b:=by
 obtain ⟨n,hn⟩:=Int.eq_ofNat_of_zero_le (show 0≤b - a by omega)
 rw[show b=a+(n:Int) by omega,Hf]
 have:=Rat.mul_le_mul_of_nonneg_left (RC n) (Rat.le_of_lt (LG a))
 rwa [Rat.mul_one] at this
theorem KV {a b:Int} (h:a<b):p2 a<p2 b:=by
 have h1:p2 (a+1)≤p2 b:=It (by omega)
 have h2:p2 (a+1)=p2 a * 2:=by rw[Hf,show p2 1=(2:Rat) from Rat.zpow_one _]
 have h3:=LG a
 grind
def mv (m:Nat) (e:Int):Rat:=(m:Rat) * p2 e
theorem Ap (m:Nat) (e:Int):0≤mv m e:=Rat.mul_nonneg (by exact_mod_cast Nat.zero_le m) (Rat.le_of_lt (LG e))
theorem Cd (e:Int):mv 0 e=0:=by unfold mv;rw[show ((0:Nat):Rat)=0 from rfl,Rat.zero_mul]
theorem Bo (m k:Nat) (e:Int):mv (m * 2 ^ k) e=mv m (e+k):=by
 unfold mv
 rw[Rat.natCast_mul,Hf,LH]
 grind
theorem C4 {m n:Nat} {e:Int}:mv m e≤mv n e↔m≤n:=by
 unfold mv
 constructor
 ·intro h
  have:=Rat.le_of_mul_le_mul_right h (LG e)
  exact_mod_cast this
 ·intro h
  exact Rat.mul_le_mul_of_nonneg_right (by exact_mod_cast h) (Rat.le_of_lt (LG e))
theorem IA {m n:Nat} {e:Int}:mv m e<mv n e↔m<n:=by
 rw[← Rat.not_le,C4];omega
theorem aN (e:Int):mv 1 e=p2 e:=by unfold mv;rw[show ((1:Nat):Rat)=1 from rfl,Rat.one_mul]
theorem CR (k:Nat) (e:Int):mv (2 ^ k) e=p2 (e+k):=by
 have:=Bo 1 k e
 rw[Nat.one_mul] at this
 rw[this,aN]
theorem PF (s:Bool) (n d B:Nat):(n≤B * 2 ^ d→Ieee.Toward.cut .even s n d≤B)∧(B * 2 ^ d≤n→B≤Ieee.Toward.cut .even s n d):=by
 unfold Ieee.Toward.cut
 simp only[Nat.shiftLeft_eq,Nat.one_mul]
 rcases Nat.lt_or_ge (n.log2+2) d with hd | hd
 ·rw[Nat.min_eq_right (Nat.le_of_lt hd)]
  have h1:n<2 ^ (n.log2+1):=Nat.lt_log2_self
  have h2:2 ^ (n.log2+2)=2 * 2 ^ (n.log2+1):=by rw[Nat.pow_succ];omega
  have h3:n<2 ^ (n.log2+2):=by omega
  rw[Nat.div_eq_of_lt h3,Nat.mod_eq_of_lt h3]
  have hm:(decide (2 ^ (n.log2+2)<2 * n)||(2 ^ (n.log2+2)==2 * n&&(0:Nat) % 2==1))=false:=by
   simp;omega
  rw[hm]
  constructor
  ·intro _;exact Nat.zero_le _
  ·intro h
   have h4:2 ^ (n.log2+2)≤2 ^ d:=Nat.pow_le_pow_right (by decide) (by omega)
   rcases Nat.eq_zero_or_pos B with rfl | hB
   ·exact Nat.zero_le _
   ·have:2 ^ d≤B * 2 ^ d:=Nat.le_mul_of_pos_left _ hB
    omega
 ·rw[Nat.min_eq_left hd]
  have hg:0<2 ^ d:=Nat.two_pow_pos d
  generalize 2 ^ d=g at hg ⊢
  have hn:g * (n / g)+n % g=n:=Nat.div_add_mod n g
  have hr:n % g<g:=Nat.mod_lt _ hg
  generalize hq:n / g=q at hn ⊢
  generalize hrr:n % g=r at hn hr ⊢
  constructor
  ·intro h
   cases hm:(decide (g<2 * r)||(g==2 * r&&q % 2==1))
   ·simp only[Bool.toNat_false,Nat.add_zero]
    have:g * q≤B * g:=by omega
    rw[Nat.mul_comm] at this
    exact Nat.le_of_mul_le_mul_right this hg
   ·simp only[Bool.toNat_true]
    have hr0:0<r:=by
     simp only[Bool.or_eq_true,decide_eq_true_eq,zB,beq_iff_eq] at hm
     omega
    have:g * q<g * B:=by rw[Nat.mul_comm g B];omega
    exact Nat.lt_of_mul_lt_mul_left this
  ·intro h
   have:B≤q:=by
    rw[← hq]
    exact (Nat.le_div_iff_mul_le hg).2 h
   omega
def sg (s:Bool) (v:Rat):Rat:=if s then -v else v
def fval (k:FloatKind) (x:Nat):Rat:=match k.decode x with
 | .number s m e=>sg s (mv m e)
 | _=>0
def DX (k:FloatKind) (B:Rat):Prop:=∃ M P,M≤2 * k.format.binade∧k.format.leastPlace≤P∧B=mv M P
def GK:FloatKind→Int
 | .f32=>128
 | .f64=>1024
theorem ka (k:FloatKind):∃ K:Nat,2≤K∧k.format.infRung=K * k.format.binade∧GK k=k.format.leastPlace+(k.format.fractionBits:Int)+(K:Int) - 1∧k.format.infRung<k.format.signWeight∧k.format.binade=2 ^ k.format.fractionBits:=by
 cases k
 ·exact ⟨255,by decide,by decide,by decide,by decide,rfl⟩
 ·exact ⟨2047,by decide,by decide,by decide,by decide,rfl⟩
theorem Zz {f:Ieee.Format} {s:Bool} {r:Nat} (h:r<f.signWeight):(f.word s r / f.signWeight % 2==1)=s:=by
 have hp:0<f.signWeight:=by omega
 unfold Ieee.Format.word
 cases s
 ·simp[Nat.div_eq_of_lt h]
 ·simp only[if_true]
  rw[Nat.add_div_left _ hp,Nat.div_eq_of_lt h];rfl
theorem X0 {f:Ieee.Format} {s:Bool} {r:Nat} (h:r<f.signWeight):f.word s r % f.signWeight=r:=by
 unfold Ieee.Format.word
 split
 ·rw[Nat.add_mod_left,Nat.mod_eq_of_lt h]
 ·rw[Nat.mod_eq_of_lt h]
theorem RN (k:FloatKind) (s:Bool) {j kept:Nat} (h1:kept≤2 * k.format.binade) (h2:0<j→k.format.binade≤kept) (h3:j * k.format.binade+kept<k.format.infRung) :
  ∃ m e,k.format.read (k.format.word s (j * k.format.binade+kept)) = .number s m e∧mv m e=mv kept (k.format.leastPlace+(j:Int))∧m≤2 * k.format.binade∧k.format.leastPlace≤e:=by
 obtain ⟨K,-,-,-,hw,hb⟩:=ka k
 have hbp:0<k.format.binade:=by rw[hb];exact Nat.two_pow_pos _
 have hr:j * k.format.binade+kept<k.format.signWeight:=by omega
 unfold Ieee.Format.read
 simp only[Zz hr,X0 hr]
 generalize hbb:k.format.binade=b at *
 by_cases c1:j * b+kept<b
 ·rw[if_pos c1]
  have hj:j=0:=by
   rcases Nat.eq_zero_or_pos j with h | h
   ·exact h
   ·have:=Nat.le_mul_of_pos_left b h;omega
  subst hj
  refine ⟨_,_,rfl,?_,by omega,Int.le_refl _⟩
  rw[Nat.zero_mul,Nat.zero_add];simp
 ·rw[if_neg c1,if_pos h3]
  rcases Nat.lt_or_ge kept b with hk | hk
  ·rcases Nat.eq_zero_or_pos j with h | h
   ·subst h;omega
   ·have:=h2 h;omega
  ·rcases Nat.lt_or_ge kept (2 * b) with hk2 | hk2
   ·have e1:(j * b+kept) / b=j+1:=by
     rw[show j * b+kept=(kept - b)+b * (j+1) by rw[Nat.mul_add,Nat.mul_comm b j];omega,Nat.add_mul_div_left _ _ hbp,Nat.div_eq_of_lt (by omega)];omega
    have e2:(j * b+kept) % b=kept - b:=by
     rw[show j * b+kept=(kept - b)+b * (j+1) by rw[Nat.mul_add,Nat.mul_comm b j];omega,Nat.add_mul_mod_self_left,Nat.mod_eq_of_lt (by omega)]
    refine ⟨_,_,rfl,?_,by rw[e2];omega,by rw[e1];omega⟩
    rw[e1,e2,show b+(kept - b)=kept by omega,Nat.add_sub_cancel]
   ·have hk3:kept=2 * b:=by omega
    subst hk3
    have e1:(j * b+2 * b) / b=j+2:=by rw[← Nat.add_mul,Nat.mul_div_cancel _ hbp]
    have e2:(j * b+2 * b) % b=0:=by rw[← Nat.add_mul,Nat.mul_mod_left]
    refine ⟨_,_,rfl,?_,by rw[e2];omega,by rw[e1];omega⟩
    rw[e1,e2,Nat.add_zero,show (j+2 - 1:Nat)=j+1 by omega,show 2 * b=b * 2 ^ 1 by omega,Bo]
    congr 1;omega
theorem M8 (k:FloatKind) (s:Bool) (m:Nat) (e:Int) {B0:Rat} (hB0:DX k B0) (hv:mv m e≤B0) (hf:B0<p2 (GK k)) :
  ∃ m' e',k.format.read (k.format.nearest s m e) = .number s m' e'∧m'≤2 * k.format.binade∧k.format.leastPlace≤e'∧∀ B,DX k B→(mv m e≤B→mv m' e'≤B)∧(B≤mv m e→B≤mv m' e'):=by
 obtain ⟨K,hK,hinf,htop,hw,hb⟩:=ka k
 have hbp:0<k.format.binade:=by rw[hb];exact Nat.two_pow_pos _
 unfold Ieee.Format.nearest
 by_cases hm:m=0
 ·subst hm
  rw[if_pos rfl]
  have h3:0 * k.format.binade+0<k.format.infRung:=by rw[hinf,Nat.zero_mul,Nat.zero_add];exact Nat.mul_pos (by omega) hbp
  obtain ⟨m',e',r1,r2,r3,r4⟩:=RN k s (j:=0) (kept:=0) (Nat.zero_le _) (by omega) h3
  rw[Nat.zero_mul] at r1
  refine ⟨m',e',r1,r3,r4,fun B _ => ?_⟩
  rw[r2,Cd,Cd]
  exact ⟨id,id⟩
 rw[if_neg hm]
 generalize hla:max (e+(m.log2:Int) - (k.format.fractionBits:Int)) k.format.leastPlace=last
 have hl1:k.format.leastPlace≤last:=by omega
 have hl2:e+(m.log2:Int) - (k.format.fractionBits:Int)≤last:=by omega
 have hl3:last≠k.format.leastPlace→last=e+(m.log2:Int) - (k.format.fractionBits:Int):=by omega
 simp only
 generalize hn:m <<< (e - last).toNat=n
 generalize hd:(last - e).toNat=d
 have hval:mv n (last - (d:Int))=mv m e:=by
  rw[← hn,Nat.shiftLeft_eq,Bo]
  congr 1;omega
 have hlow:p2 (e+(m.log2:Int))≤mv m e:=by
  have:2 ^ m.log2≤m:=Nat.log2_self_le hm
  have h:=(C4 (e:=e)).2 this
  rwa [CR] at h
 have hhigh:mv m e<p2 (e+(m.log2:Int)+1):=by
  have:m<2 ^ (m.log2+1):=Nat.lt_log2_self
  have h:=(IA (e:=e)).2 this
  rw[CR] at h
  rw[show e+(m.log2:Int)+1=e+((m.log2+1:Nat):Int) by omega];exact h
 generalize hk:Ieee.Toward.cut .even s n d=kept
 have hcut:∀ B:Nat,(mv m e≤mv B last→mv kept last≤mv B last)∧(mv B last≤mv m e→mv B last≤mv kept last):=by
  intro B
  have hB:mv B last=mv (B * 2 ^ d) (last - (d:Int)):=by rw[Bo];congr 1;omega
  have:=PF s n d B
  rw[hk] at this
  rw[C4,C4]
  rw[← hval,hB,C4,C4]
  exact this
 have hkb:kept≤2 * k.format.binade:=by
  have h:=(hcut (2 * k.format.binade)).1 (by
   rw[hb,show 2 * 2 ^ k.format.fractionBits=2 ^ (k.format.fractionBits+1) by rw[Nat.pow_succ];omega,CR]
   refine Rat.le_trans (Rat.le_of_lt hhigh) (It ?_)
   omega)
  exact C4.1 h
 have hkl:last≠k.format.leastPlace→k.format.binade≤kept:=by
  intro h
  have h:=(hcut k.format.binade).2 (by
   rw[hb,CR]
   refine Rat.le_trans (It ?_) hlow
   have:=hl3 h
   omega)
  exact C4.1 h
 have key:∀ B,DX k B→(mv m e≤B→mv kept last≤B)∧(B≤mv m e→B≤mv kept last):=by
  rintro B ⟨M,P,hM,hP,rfl⟩
  by_cases hPl:last≤P
  ·have hB:mv M P=mv (M * 2 ^ (P - last).toNat) last:=by rw[Bo];congr 1;omega
   rw[hB];exact hcut _
  ·have hl4:=hl3 (by omega)
   have hMB:mv M P≤mv k.format.binade last:=by
    refine Rat.le_trans (C4.2 hM) ?_
    rw[hb,show 2 * 2 ^ k.format.fractionBits=2 ^ (k.format.fractionBits+1) by rw[Nat.pow_succ];omega,CR,CR]
    exact It (by omega)
   have hBm:mv k.format.binade last≤mv m e:=by
    rw[hb,CR]
    exact Rat.le_trans (It (by omega)) hlow
   constructor
   ·intro h
    have h1:mv m e≤mv k.format.binade last:=Rat.le_trans h hMB
    exact Rat.le_trans ((hcut _).1 h1) (Rat.le_trans hBm h)
   ·intro _
    exact Rat.le_trans hMB ((hcut _).2 hBm)
 have hfin:(last - k.format.leastPlace).toNat * k.format.binade+kept<k.format.infRung:=by
  rcases Nat.lt_or_ge ((last - k.format.leastPlace).toNat * k.format.binade+kept) k.format.infRung with h | h
  ·exact h
  ·exfalso
   have hR:mv kept last<p2 (GK k):=by
    have h1:=(key B0 hB0).1 hv
    grind
   rw[hinf] at h
   generalize hj:(last - k.format.leastPlace).toNat=j at h
   generalize hbb:k.format.binade=b at *
   have hj2:K≤j+2:=by
    rcases Nat.lt_or_ge (j+2) K with h' | h'
    ·have:(j+3) * b≤K * b:=Nat.mul_le_mul_right _ h'
     rw[Nat.add_mul] at this
     omega
    ·exact h'
   have hge:p2 (GK k)≤mv kept last:=by
    rcases Nat.lt_or_ge j (K - 1) with h' | h'
    ·have hj3:K=j+2:=by omega
     subst hj3
     rw[Nat.add_mul] at h
     have:kept=2 ^ (k.format.fractionBits+1):=by rw[Nat.pow_succ,← hb];omega
     rw[this,CR]
     exact It (by omega)
    ·have:mv (2 ^ k.format.fractionBits) last≤mv kept last:=C4.2 (by rw[← hb];exact hkl (by omega))
     refine Rat.le_trans ?_ this
     rw[CR]
     exact It (by omega)
   grind
 rw[Nat.min_eq_left (Nat.le_of_lt hfin)]
 obtain ⟨m',e',r1,r2,r3,r4⟩:=RN k s hkb (fun h=>hkl (by omega)) hfin
 refine ⟨m',e',r1,r3,r4,fun B hB => ?_⟩
 rw[r2,show k.format.leastPlace+((last - k.format.leastPlace).toNat:Int)=last by omega]
 exact key B hB
theorem SA (a b:Nat) (e f:Int):mv (a * b) (e+f)=mv a e * mv b f:=by
 unfold mv;rw[Rat.natCast_mul,Hf];grind
theorem QD (k:FloatKind) {e:Int} (h:k.format.leastPlace≤e):DX k (p2 e):=⟨1,e,by cases k <;>decide,h,(aN e).symm⟩
theorem Q5 {x:Nat} {s:Bool} {m:Nat} {e:Int} (h:FloatKind.f32.decode x = .number s m e):mv m e≤p2 128:=by
 obtain ⟨h1,-,h3⟩:=DV (x:=x) h
 have h4:mv m e≤mv (2 ^ 24) e:=C4.2 (by omega)
 rw[CR] at h4
 exact Rat.le_trans h4 (It (by omega))
theorem YO (k:FloatKind) {s:Bool} {m:Nat} {e E:Int} (h:mv m e≤p2 E) (h1:k.format.leastPlace≤E) (h2:E<GK k):∃ m' e',k.decode (k.encode (.number s m e)) = .number s m' e'∧mv m' e'≤p2 E:=by
 obtain ⟨m',e',r1,-,-,r4⟩:=M8 k s m e (QD k h1) h (KV h2)
 exact ⟨m',e',r1,(r4 _ (QD k h1)).1 h⟩
theorem KG {k k':FloatKind} {x:Nat} {E:Int} (hk:k≠k') (h1:k'.format.leastPlace≤E) (h2:E<GK k') (h:∀ s m e,k.decode x = .number s m e→mv m e≤p2 E):∃ y,Ar k x k'=some y:=by
 unfold Ar
 rw[if_neg hk]
 cases hd:k.decode x with
 | nan s t=>exact ⟨_,rfl⟩
 | infinity s=>exact ⟨_,rfl⟩
 | number s m e =>
   obtain ⟨m',e',r1,-⟩:=YO k' (s:=s) (h s m e hd) h1 h2
   refine ⟨k'.encode (.number s m e),?_⟩
   simp only[r1,Ieee.Datum.isInfinity]
   rfl
def eP (k:FloatKind) (B:Rat):Prop:=∃ s C,DX k C∧B=sg s C
theorem A5 (v:Rat):sg false v=v:=rfl
theorem Cj (v:Rat):sg true v = -v:=rfl
theorem NR {k:FloatKind} {B:Rat} (h:DX k B):0≤B:=by
 obtain ⟨M,P,-,-,rfl⟩:=h;exact Ap _ _
theorem DX.rep {k:FloatKind} {B:Rat} (h:DX k B):eP k B:=⟨false,B,h,rfl⟩
theorem DX.neg {k:FloatKind} {B:Rat} (h:DX k B):eP k (-B):=⟨true,B,h,rfl⟩
def CI (k:FloatKind) (x:Nat) (v:Rat):Prop:=∃ s m e,k.decode x = .number s m e∧v=sg s (mv m e)∧m≤2 * k.format.binade∧k.format.leastPlace≤e
theorem CI.rep {k:FloatKind} {x:Nat} {v:Rat} (h:CI k x v):eP k v:=by
 obtain ⟨s,m,e,-,rfl,h1,h2⟩:=h
 exact ⟨s,_,⟨m,e,h1,h2,rfl⟩,rfl⟩
theorem CI.inj {k:FloatKind} {x:Nat} {v w:Rat} (h:CI k x v) (h':CI k x w):v=w:=by
 obtain ⟨s,m,e,h1,rfl,-⟩:=h
 obtain ⟨s',m',e',h2,rfl,-⟩:=h'
 rw[h1] at h2;cases h2;rfl
def Lr (k:FloatKind) (v R:Rat):Prop:=∀ B,eP k B→(v≤B→R≤B)∧(B≤v→B≤R)
theorem Ga (k:FloatKind) (s:Bool) (m:Nat) (e:Int) {B0:Rat} (hB0:DX k B0) (hv:mv m e≤B0) (hf:B0<p2 (GK k)) :
  ∃ R,CI k (k.encode (.number s m e)) R∧Lr k (sg s (mv m e)) R:=by
 obtain ⟨m',e',r1,r2,r3,r4⟩:=M8 k s m e hB0 hv hf
 refine ⟨sg s (mv m' e'),⟨s,m',e',r1,rfl,r2,r3⟩,?_⟩
 rintro B ⟨t,C,hC,rfl⟩
 obtain ⟨c1,c2⟩:=r4 C hC
 have hC0:=NR hC
 have h0:=Ap m e
 have h0' :=Ap m' e'
 have hz:mv m e≤0→mv m' e'≤0:=by
  intro h
  have hz:DX k 0:=⟨0,k.format.leastPlace,Nat.zero_le _,Int.le_refl _,(Cd _).symm⟩
  exact (r4 0 hz).1 h
 cases s <;>cases t <;>simp only[sg] <;>constructor <;>intro h <;>simp only[Bool.false_eq_true,if_false,if_true] at * <;>grind
theorem CI.near_eq {k:FloatKind} {x:Nat} {v R:Rat} (h:CI k x R) (hn:Lr k v R) (hv:eP k v):CI k x v:=by
 have h1:=(hn v hv).1 Rat.le_refl
 have h2:=(hn v hv).2 Rat.le_refl
 have:v=R:=by grind
 rw[this];exact h
theorem CI.num {k:FloatKind} {x:Nat} {v:Rat} (h:CI k x v):isNaN k x=false:=by
 obtain ⟨s,m,e,h1,-⟩:=h
 unfold isNaN;rw[h1];rfl
theorem Ds (s:Bool) (m up:Nat) (b:Int):((Ieee.signed s m up:Int):Rat) * p2 b=sg s (mv m (b+(up:Int))):=by
 rw[← Bo]
 unfold Ieee.signed sg mv
 rw[Nat.shiftLeft_eq]
 cases s <;>simp only[Bool.false_eq_true,if_false,if_true]
 ·rw[Rat.intCast_natCast]
 ·rw[Rat.intCast_neg,Rat.intCast_natCast];grind
theorem Mp (t:Int) (c:Bool) (b:Int):sg (if t=0 then c else decide (t<0)) (mv t.natAbs b)=(t:Rat) * p2 b:=by
 by_cases h0:t=0
 ·subst h0
  rw[if_pos rfl]
  simp only[Int.natAbs_zero,Cd,sg,Rat.intCast_zero,Rat.zero_mul]
  cases c <;>simp
 ·rw[if_neg h0]
  by_cases h1:t<0
  ·rw[decide_eq_true h1]
   have:(t:Rat) = -((t.natAbs:Nat):Rat):=by rw[← Rat.intCast_natCast,← Rat.intCast_neg];congr 1;omega
   rw[this]
   simp only[sg,if_true,mv];grind
  ·rw[decide_eq_false h1]
   have:(t:Rat)=((t.natAbs:Nat):Rat):=by rw[← Rat.intCast_natCast];congr 1;omega
   rw[this]
   simp only[sg,Bool.false_eq_true,if_false,mv]
theorem hZ {a b c:Rat} (h1:a≤b) (h2:b<c):a<c:=by grind
theorem M6 {s:Bool} {c B:Rat} (_:0≤c) (h1:sg s c≤B) (h2 : -B≤sg s c):c≤B:=by
 cases s <;>simp only[sg,Bool.false_eq_true,if_false,if_true] at * <;>grind
theorem Lc {k:FloatKind} {x y:Nat} {a b B:Rat} (hx:CI k x a) (hy:CI k y b) (hB:DX k B) (hf:B<p2 (GK k)) (h1:a+b≤B) (h2 : -B≤a+b) :
  ∃ R,CI k (Au k x y) R∧Lr k (a+b) R:=by
 obtain ⟨s,m,i,e1,rfl,-⟩:=hx
 obtain ⟨t,n,j,e2,rfl,-⟩:=hy
 have e1:k.format.read x = .number s m i:=e1
 have e2:k.format.read y = .number t n j:=e2
 generalize hb:min i j=base
 generalize ht:Ieee.signed s m (i - base).toNat+Ieee.signed t n (j - base).toNat=total
 have hadd:Au k x y=k.encode (.number (if total=0 then s&&t else total<0) total.natAbs base):=by
  simp only[Au,Ieee.Format.add,e1,e2,Ieee.Datum.sum,Option.map_some,hb,ht]
  rfl
 have hval:sg (if total=0 then s&&t else decide (total<0)) (mv total.natAbs base)=sg s (mv m i)+sg t (mv n j):=by
  rw[Mp,← ht,Rat.intCast_add,Rat.add_mul,Ds,Ds]
  congr 2 <;>congr 1 <;>omega
 rw[hadd,← hval]
 exact Ga k _ _ _ hB (M6 (Ap _ _) (by rw[hval];exact h1) (by rw[hval];exact h2)) hf
theorem FW {k:FloatKind} {x y:Nat} {a b B:Rat} (hx:CI k x a) (hy:CI k y b) (hB:DX k B) (hf:B<p2 (GK k)) (h1:a * b≤B) (h2 : -B≤a * b) :
  ∃ R,CI k (AM k x y) R∧Lr k (a * b) R:=by
 obtain ⟨s,m,i,e1,rfl,-⟩:=hx
 obtain ⟨t,n,j,e2,rfl,-⟩:=hy
 have e1:k.format.read x = .number s m i:=e1
 have e2:k.format.read y = .number t n j:=e2
 have hmul:AM k x y=k.encode (.number (s ^^ t) (m * n) (i+j)):=by
  simp only[AM,Ieee.Format.mul,e1,e2,Ieee.Datum.product,Option.map_some]
  rfl
 have hval:sg (s ^^ t) (mv (m * n) (i+j))=sg s (mv m i) * sg t (mv n j):=by
  rw[SA]
  cases s <;>cases t <;>simp[sg] <;>grind
 rw[hmul,← hval]
 exact Ga k _ _ _ hB (M6 (Ap _ _) (by rw[hval];exact h1) (by rw[hval];exact h2)) hf
theorem EY {k:FloatKind} {x y:Nat} {a b:Rat} (hx:CI k x a) (hy:CI k y b):(k.format.order x y=some .lt↔a<b)∧(k.format.order x y=some .eq↔a=b)∧(k.format.order x y=some .gt↔b<a):=by
 obtain ⟨s,m,i,e1,rfl,-⟩:=hx
 obtain ⟨t,n,j,e2,rfl,-⟩:=hy
 have e1:k.format.read x = .number s m i:=e1
 have e2:k.format.read y = .number t n j:=e2
 generalize hb:min i j=base
 have ha:sg s (mv m i)=((Ieee.signed s m (i - base).toNat:Int):Rat) * p2 base:=by rw[Ds];congr 2;omega
 have hc:sg t (mv n j)=((Ieee.signed t n (j - base).toNat:Int):Rat) * p2 base:=by rw[Ds];congr 2;omega
 rw[ha,hc]
 have ho:k.format.order x y=some (compare (Ieee.signed s m (i - base).toNat) (Ieee.signed t n (j - base).toNat)):=by
  simp only[Ieee.Format.order,e1,e2,Ieee.Datum.order,hb]
 rw[ho]
 generalize Ieee.signed s m (i - base).toNat=u
 generalize Ieee.signed t n (j - base).toNat=v
 have hlt:∀ p q:Int,(p:Rat) * p2 base<(q:Rat) * p2 base↔p<q:=fun p q=>by rw[Rat.mul_lt_mul_right (LG _),Rat.intCast_lt_intCast]
 have heq:((u:Rat) * p2 base=(v:Rat) * p2 base)↔u=v:=by
  constructor
  ·intro h
   rcases Int.lt_trichotomy u v with h1 | h1 | h1
   ·have:=(hlt u v).2 h1;grind
   ·exact h1
   ·have:=(hlt v u).2 h1;grind
  ·rintro rfl;rfl
 rw[hlt,hlt,heq]
 have hc:(u<v∧compare u v = .lt)∨(u=v∧compare u v = .eq)∨(v<u∧compare u v = .gt):=by
  rcases Int.lt_trichotomy u v with h1 | h1 | h1
  ·exact .inl ⟨h1,by simp[compare,compareOfLessAndEq,h1]⟩
  ·subst h1;exact .inr (.inl ⟨rfl,by simp[compare,compareOfLessAndEq]⟩)
  ·exact .inr (.inr ⟨h1,by simp only[compare,compareOfLessAndEq];rw[if_neg (by omega),if_neg (by omega)]⟩)
 rcases hc with ⟨h,e⟩ | ⟨h,e⟩ | ⟨h,e⟩ <;>rw[e] <;>simp <;>omega
theorem N6 {k:FloatKind} {x y:Nat} {a b:Rat} (hx:CI k x a) (hy:CI k y b):flt k x y=true↔a<b:=by
 rw[← (EY hx hy).1];simp[flt]
theorem W0 {k:FloatKind} {x y:Nat} {a b:Rat} (hx:CI k x a) (hy:CI k y b):F4 k x y=true↔b<a:=by
 rw[← (EY hx hy).2.2];simp[F4]
theorem W6 {k:FloatKind} {x y:Nat} {a b:Rat} (hx:CI k x a) (hy:CI k y b):Nz k x y=true↔a=b:=by
 rw[← (EY hx hy).2.1];simp[Nz]
theorem SR {k:FloatKind} {x y:Nat} {a b:Rat} (hx:CI k x a) (hy:CI k y b):VQ k x y=true↔a≤b:=by
 have h1:=(EY hx hy).1
 have h2:=(EY hx hy).2.1
 simp only[VQ,Bool.or_eq_true,beq_iff_eq,h1,h2]
 grind
theorem LO {k:FloatKind} {x y:Nat} {a b:Rat} (hx:CI k x a) (hy:CI k y b):Ly k x y=true↔b≤a:=by
 have h1:=(EY hx hy).2.2
 have h2:=(EY hx hy).2.1
 simp only[Ly,Bool.or_eq_true,beq_iff_eq,h1,h2]
 grind
theorem Ls (s:Bool) (n d:Nat):Ieee.Toward.cut .zero s n d=n / 2 ^ d:=by
 unfold Ieee.Toward.cut
 simp only[Nat.shiftLeft_eq,Nat.one_mul,Bool.toNat_false,Nat.add_zero]
 rcases Nat.lt_or_ge (n.log2+2) d with hd | hd
 ·rw[Nat.min_eq_right (Nat.le_of_lt hd)]
  have h1:n<2 ^ (n.log2+1):=Nat.lt_log2_self
  have h2:2 ^ (n.log2+1)≤2 ^ (n.log2+2):=Nat.pow_le_pow_right (by decide) (by omega)
  have h3:2 ^ (n.log2+1)≤2 ^ d:=Nat.pow_le_pow_right (by decide) (by omega)
  rw[Nat.div_eq_of_lt (by omega),Nat.div_eq_of_lt (by omega)]
 ·rw[Nat.min_eq_left hd]
theorem Sr {x:Nat} {a:Rat} {N:Nat} (hx:CI .f64 x a) (h0:0≤a) (h1:a<(N:Rat)) (hN:N≤9223372036854775807):∃ n:Nat,EE .f64 x .i64=some (n:Int)∧n<N∧(n:Rat)≤a∧a<(n:Rat)+1:=by
 obtain ⟨s,m,i,e1,rfl,-⟩:=hx
 have hs:s=true→mv m i=0:=by
  intro h;subst h
  have:=Ap m i
  simp only[sg,if_true] at h0
  grind
 have hm:s=true→m=0:=by
  intro h
  have h2:=hs h
  rcases Nat.eq_zero_or_pos m with h3 | h3
  ·exact h3
  ·have:=IA (e:=i) |>.2 h3
   rw[Cd] at this
   grind
 have hv:sg s (mv m i)=mv m i:=by
  cases s
  ·rfl
  ·rw[hs rfl];rfl
 rw[hv] at h0 h1 ⊢
 generalize hn:(m <<< i.toNat) / 2 ^ (-i).toNat=n
 have hkey:mv n 0≤mv m i∧mv m i<mv (n+1) 0:=by
  rcases Int.le_total 0 i with hi | hi
  ·have:(-i).toNat=0:=by omega
   rw[this,Nat.pow_zero,Nat.div_one,Nat.shiftLeft_eq] at hn
   have e:mv n 0=mv m i:=by rw[← hn,Bo];congr 1;omega
   rw[← e]
   exact ⟨Rat.le_refl,IA.2 (by omega)⟩
  ·have h2:i.toNat=0:=by omega
   rw[h2,Nat.shiftLeft_zero] at hn
   generalize hd:(-i).toNat=d at hn
   have e:∀ q,mv q 0=mv (q * 2 ^ d) i:=fun q=>by rw[Bo];congr 1;omega
   rw[e,e,C4,IA]
   have hg:0<2 ^ d:=Nat.two_pow_pos d
   have h3:=Nat.div_add_mod m (2 ^ d)
   have h4:=Nat.mod_lt m hg
   rw[hn,Nat.mul_comm] at h3
   rw[Nat.add_mul]
   omega
 have h2:∀ q:Nat,mv q 0=(q:Rat):=fun q=>by unfold mv;rw[Cp,Rat.mul_one]
 rw[h2,h2] at hkey
 have hnN:n<N:=by
  have:(n:Rat)<(N:Rat):=by grind
  exact_mod_cast this
 refine ⟨n,?_,hnN,hkey.1,by have:=hkey.2;rw[Rat.natCast_add] at this;exact this⟩
 unfold EE
 simp only[Ieee.Datum.toInt,e1,Ieee.Datum.integral,Ls,hn]
 have hsg:Ieee.signed s n 0=(n:Int):=by
  unfold Ieee.signed
  cases s
  ·simp
  ·have:=hm rfl
   subst this
   have:n=0:=by rw[← hn];simp
   subst this;rfl
 rw[hsg]
 have h5:IntKind.min .i64 = -9223372036854775808:=by decide
 have h6:IntKind.max .i64=9223372036854775807:=by decide
 rw[if_pos (by rw[h5,h6];omega)]
theorem Dg {k:FloatKind} {n:Int} (hn:n.natAbs≤2 * k.format.binade):CI k (k.nearest n) (n:Rat):=by
 have hm:DX k (mv n.natAbs 0):=⟨n.natAbs,0,hn,by cases k <;>decide,rfl⟩
 have hval:sg (decide (n<0)) (mv n.natAbs 0)=(n:Rat):=by
  have:=Mp n (decide (n<0)) 0
  rw[Cp,Rat.mul_one] at this
  rw[← this]
  congr 1
  by_cases h:n=0
  ·rw[if_pos h]
  ·rw[if_neg h]
 have hlt:mv n.natAbs 0<p2 (GK k):=by
  have h1:mv n.natAbs 0≤mv (2 * k.format.binade) 0:=C4.2 hn
  cases k
  ·exact hZ h1 (by rw[show 2 * FloatKind.f32.format.binade=2 ^ 24 by decide,CR];exact KV (by decide))
  ·exact hZ h1 (by rw[show 2 * FloatKind.f64.format.binade=2 ^ 53 by decide,CR];exact KV (by decide))
 obtain ⟨R,h1,h2⟩:=Ga k (decide (n<0)) n.natAbs 0 hm Rat.le_refl hlt
 have h3:CI k (k.nearest n) R:=h1
 rw[hval] at h2
 refine h3.near_eq h2 ⟨decide (n<0),_,hm,hval.symm⟩
theorem VA {x:Nat} {a:Rat} (h:CI .f32 x a):CI .f64 (CY x) a:=by
 obtain ⟨s,m,e,h1,rfl,h2,h3⟩:=h
 have h3' : -149≤e:=h3
 have h2':m≤16777216:=h2
 have hr:DX .f64 (mv m e):=⟨m,e,Nat.le_trans h2' (by decide),(show (-1074:Int)≤e by omega),rfl⟩
 obtain ⟨R,r1,r2⟩:=Ga .f64 s m e hr Rat.le_refl (hZ (Q5 h1) (KV (by decide)))
 have hw:=Cs x
 unfold Ar at hw
 rw[if_neg (by decide),h1] at hw
 obtain ⟨s',m',e',k1,-⟩:=(show CI _ _ _ from r1)
 have k2:FloatKind.f64.decode (FloatKind.f64.encode (.number s m e)) = .number s' m' e' :=k1
 simp only[k2,Ieee.Datum.isInfinity] at hw
 have hw:FloatKind.f64.encode (.number s m e)=CY x:=by simpa using hw
 rw[← hw]
 exact r1.near_eq r2 ⟨s,_,hr,rfl⟩
theorem bj {k:FloatKind} {Q v:Rat} (hQ:0≤Q) (hv:0≤v) (h:∀ C,DX k C→(Q≤C→v≤C)∧(C≤Q→C≤v)) (s:Bool):Lr k (sg s Q) (sg s v):=by
 rintro B ⟨t,C,hC,rfl⟩
 obtain ⟨c1,c2⟩:=h C hC
 have hC0:=NR hC
 have hz:Q≤0→v≤0:=(h 0 ⟨0,k.format.leastPlace,Nat.zero_le _,Int.le_refl _,(Cd _).symm⟩).1
 cases s <;>cases t <;>simp only[sg] <;>constructor <;>intro h <;>simp only[Bool.false_eq_true,if_false,if_true] at * <;>grind
theorem Lr.trans {k:FloatKind} {a b c:Rat} (h:Lr k a b) (h':Lr k b c):Lr k a c:=fun B hB=>⟨fun h1=>(h' B hB).1 ((h B hB).1 h1),fun h1=>(h' B hB).2 ((h B hB).2 h1)⟩
theorem Vh (k:FloatKind) {m n:Nat} {i j:Int} (hn:n≠0) {more q:Nat} {st:Bool} (hmore:k.format.fractionBits+2+n.log2≤more+m.log2) (hq:(m <<< more) / n=q) (hst:((m <<< more) % n != 0)=st) {C:Rat} (hC:DX k C) :
  (mv m i≤C * mv n j→mv (2 * q+st.toNat) (i - j - more - 1)≤C)∧(C * mv n j≤mv m i→C≤mv (2 * q+st.toNat) (i - j - more - 1)):=by
 obtain ⟨-,-,-,-,-,hb⟩:=ka k
 obtain ⟨M,P,hM,hP,rfl⟩:=hC
 generalize hu:i - j - (more:Int)=u
 rw[Nat.shiftLeft_eq] at hq hst
 generalize hdv:m * 2 ^ more=dv at hq hst
 have hmv:mv m i=mv dv (u+j):=by rw[← hdv,Bo];congr 1;omega
 have hdm:=Nat.div_add_mod dv n
 rw[hq] at hdm
 have hml:=Nat.mod_lt dv (Nat.pos_of_ne_zero hn)
 have hstr:(st=true→0<dv % n)∧(st=false→dv % n=0):=by
  rw[← hst]
  constructor <;>intro h <;>simp at h <;>omega
 have hst1:=Bool.toNat_le st
 have h2:∀ c,mv c u=mv (2 * c) (u - 1):=fun c=>by rw[show 2 * c=c * 2 ^ 1 by omega,Bo];congr 1;omega
 by_cases hPu:u≤P
 ·have hC:mv M P=mv (M * 2 ^ (P - u).toNat) u:=by rw[Bo];congr 1;omega
  rw[hC]
  generalize M * 2 ^ (P - u).toNat=M'
  rw[hmv,← SA,C4,C4,h2 M',C4,C4]
  constructor
  ·intro h
   have h3:n * q≤n * M' :=by rw[Nat.mul_comm n M'];omega
   have h4:=Nat.le_of_mul_le_mul_left h3 (Nat.pos_of_ne_zero hn)
   cases st
   ·simp only[Bool.toNat_false];omega
   ·have h5:n * q<n * M' :=by rw[Nat.mul_comm n M'];have:=hstr.1 rfl;omega
    have h6:=Nat.lt_of_mul_lt_mul_left h5
    simp only[Bool.toNat_true];omega
  ·intro h
   have:M'≤q:=by
    rw[← hq];exact (Nat.le_div_iff_mul_le (Nat.pos_of_ne_zero hn)).2 h
   omega
 ·by_cases hm:m=0
  ·subst hm
   have hd0:dv=0:=by rw[← hdv,Nat.zero_mul]
   subst hd0
   have hq0:q=0:=by rw[← hq,Nat.zero_div]
   subst hq0
   have:st=false:=by rw[← hst];simp
   subst this
   simp only[Bool.toNat_false,Nat.mul_zero,Nat.add_zero,Cd]
   refine ⟨fun _=>Ap _ _,fun h => ?_⟩
   rcases Nat.eq_zero_or_pos M with h0 | h0
   ·subst h0;rw[Cd];exact Rat.le_refl
   ·exfalso
    rw[← SA] at h
    have h5:mv 0 (P+j)<mv (M * n) (P+j):=IA.2 (Nat.mul_pos h0 (Nat.pos_of_ne_zero hn))
    rw[Cd] at h5
    grind
  ·have hdl:2 ^ (k.format.fractionBits+2+n.log2)≤dv:=by
    have h3:2 ^ (m.log2+more)≤dv:=by
     rw[Nat.pow_add,← hdv]
     exact Nat.mul_le_mul_right _ (Nat.log2_self_le hm)
    exact Nat.le_trans (Nat.pow_le_pow_right (by decide) (by omega)) h3
   have hql:2 ^ (k.format.fractionBits+1)≤q:=by
    rw[← hq,Nat.le_div_iff_mul_le (Nat.pos_of_ne_zero hn)]
    have h4:n<2 ^ (n.log2+1):=Nat.lt_log2_self
    have h5:2 ^ (k.format.fractionBits+1) * n≤2 ^ (k.format.fractionBits+1) * 2 ^ (n.log2+1):=Nat.mul_le_mul_left _ (Nat.le_of_lt h4)
    rw[← Nat.pow_add,show k.format.fractionBits+1+(n.log2+1)=k.format.fractionBits+2+n.log2 by omega] at h5
    omega
   have hCu:mv M P≤mv (2 ^ k.format.fractionBits) u:=by
    refine Rat.le_trans (C4.2 hM) ?_
    rw[hb,show 2 * 2 ^ k.format.fractionBits=2 ^ (k.format.fractionBits+1) by rw[Nat.pow_succ];omega,CR,CR]
    exact It (by omega)
   have hpw:2 ^ k.format.fractionBits<2 ^ (k.format.fractionBits+1):=by rw[Nat.pow_succ];have:=Nat.two_pow_pos k.format.fractionBits;omega
   have hle:mv M P≤mv (2 * q+st.toNat) (u - 1):=by
    refine Rat.le_trans hCu ?_
    rw[h2,C4];omega
   refine ⟨fun h => ?_,fun _=>hle⟩
   exfalso
   have h6:mv M P * mv n j≤mv (2 ^ k.format.fractionBits) u * mv n j:=Rat.mul_le_mul_of_nonneg_right hCu (Ap _ _)
   have h7:=Rat.le_trans h h6
   rw[hmv,← SA,C4] at h7
   have h8:2 ^ (k.format.fractionBits+1) * n≤q * n:=Nat.mul_le_mul_right _ hql
   have h9:2 ^ k.format.fractionBits * n<2 ^ (k.format.fractionBits+1) * n:=Nat.mul_lt_mul_of_pos_right hpw (Nat.pos_of_ne_zero hn)
   rw[Nat.mul_comm q n] at h8
   omega
theorem Lv {k:FloatKind} {x y:Nat} {a b B:Rat} (hx:CI k x a) (hy:CI k y b) (hb:b≠0) (hB:DX k B) (hf:B<p2 (GK k)) (h1:a / b≤B) (h2 : -B≤a / b) :
  ∃ R,CI k (fdiv k x y) R∧Lr k (a / b) R:=by
 obtain ⟨s,m,i,e1,rfl,-⟩:=hx
 obtain ⟨t,n,j,e2,rfl,-⟩:=hy
 have e1:k.format.read x = .number s m i:=e1
 have e2:k.format.read y = .number t n j:=e2
 have hn:n≠0:=by
  rintro rfl
  apply hb
  rw[Cd];cases t <;>simp[sg]
 generalize hmo:k.format.fractionBits+2+n.log2 - m.log2=more
 generalize hq:(m <<< more) / n=q
 generalize hst:((m <<< more) % n != 0)=st
 have hdiv:fdiv k x y=k.encode (.number (s ^^ t) (2 * q+st.toNat) (i - j - more - 1)):=by
  simp only[fdiv,Ieee.Format.div,e1,e2,Ieee.Datum.quotient,if_neg hn,hmo,hq,hst,Option.map_some]
  rfl
 have hnp:0<mv n j:=by have:=(IA (e:=j)).2 (Nat.pos_of_ne_zero hn);rwa [Cd] at this
 have hval:sg s (mv m i) / sg t (mv n j)=sg (s ^^ t) (mv m i / mv n j):=by
  cases s <;>cases t <;>simp[sg] <;>grind
 have hcan:mv m i / mv n j * mv n j=mv m i:=by rw[Rat.div_mul_cancel];grind
 have hQ:0≤mv m i / mv n j:=by
  have h3:=Ap m i
  rcases Rat.le_total (a:=0) (b:=mv m i / mv n j) with h | h
  ·exact h
  ·have h4:mv m i / mv n j * mv n j≤0 * mv n j:=Rat.mul_le_mul_of_nonneg_right h (Rat.le_of_lt hnp)
   rw[hcan,Rat.zero_mul] at h4
   have h5:mv m i=0:=by grind
   rw[h5,Rat.div_def,Rat.zero_mul];exact Rat.le_refl
 have hside:∀ C,DX k C→(mv m i / mv n j≤C→mv (2 * q+st.toNat) (i - j - more - 1)≤C)∧(C≤mv m i / mv n j→C≤mv (2 * q+st.toNat) (i - j - more - 1)):=by
  intro C hC
  obtain ⟨c1,c2⟩:=Vh k (i:=i) (j:=j) hn (by omega) hq hst hC
  constructor
  ·intro h
   have:=Rat.mul_le_mul_of_nonneg_right h (Rat.le_of_lt hnp)
   rw[hcan] at this
   exact c1 this
  ·intro h
   have:=Rat.mul_le_mul_of_nonneg_right h (Rat.le_of_lt hnp)
   rw[hcan] at this
   exact c2 this
 rw[hval] at h1 h2 ⊢
 have hQB:=M6 hQ h1 h2
 obtain ⟨R,r1,r2⟩:=Ga k (s ^^ t) (2 * q+st.toNat) (i - j - more - 1) hB ((hside B hB).1 hQB) hf
 rw[hdiv]
 exact ⟨R,r1,(bj hQ (Ap _ _) hside _).trans r2⟩
theorem BL {k:FloatKind} {x:Nat} {s:Bool} {m:Nat} {e:Int} (h:k.decode x = .number s m e):CI k x (sg s (mv m e)):=by
 refine ⟨s,m,e,h,rfl,?_⟩
 obtain ⟨K,-,-,-,-,hb⟩:=ka k
 have hbp:0<k.format.binade:=by rw[hb];exact Nat.two_pow_pos _
 have h:k.format.read x = .number s m e:=h
 unfold Ieee.Format.read at h
 by_cases c1:x % k.format.signWeight<k.format.binade
 ·simp only[if_pos c1] at h
  cases h
  exact ⟨by omega,Int.le_refl _⟩
 ·by_cases c2:x % k.format.signWeight<k.format.infRung
  ·simp only[if_neg c1,if_pos c2] at h
   cases h
   have:=Nat.mod_lt (x % k.format.signWeight) hbp
   exact ⟨by omega,by omega⟩
  ·by_cases c3:x % k.format.signWeight=k.format.infRung
   ·simp only[if_neg c1,if_neg c2,if_pos c3] at h;cases h
   ·simp only[if_neg c1,if_neg c2,if_neg c3] at h;cases h
theorem em:p2 1=2:=Rat.zpow_one _
theorem J0:CI .f64 4607182418800017408 1:=by
 have:=BL (k:=.f64) (x:=4607182418800017408) (s:=false) (m:=2 ^ 52) (e:=-52) (by decide)
 rwa [A5,CR,show (-52:Int)+((52:Nat):Int)=0 by decide,Cp] at this
theorem Hr:CI .f32 1065353216 1:=by
 have:=BL (k:=.f32) (x:=1065353216) (s:=false) (m:=2 ^ 23) (e:=-23) (by decide)
 rwa [A5,CR,show (-23:Int)+((23:Nat):Int)=0 by decide,Cp] at this
theorem Zq (k:FloatKind):eP k 0:=⟨false,0,⟨0,k.format.leastPlace,Nat.zero_le _,Int.le_refl _,(Cd _).symm⟩,rfl⟩
theorem CW {k:FloatKind} {x:Nat} {s:Bool} {m:Nat} {e:Int} (h:k.decode x = .number s m e) :
  m<2 * k.format.binade∧k.format.leastPlace≤e∧(k.format.leastPlace<e→k.format.binade≤m)∧x % k.format.signWeight=(e - k.format.leastPlace).toNat * k.format.binade+m∧(x / k.format.signWeight % 2==1)=s:=by
 obtain ⟨K,-,-,-,-,hb⟩:=ka k
 have hbp:0<k.format.binade:=by rw[hb];exact Nat.two_pow_pos _
 have h:k.format.read x = .number s m e:=h
 unfold Ieee.Format.read at h
 by_cases c1:x % k.format.signWeight<k.format.binade
 ·simp only[if_pos c1] at h
  cases h
  refine ⟨by omega,Int.le_refl _,fun h=>by omega,?_,rfl⟩
  rw[Int.sub_self];simp
 ·by_cases c2:x % k.format.signWeight<k.format.infRung
  ·simp only[if_neg c1,if_pos c2] at h
   cases h
   generalize x % k.format.signWeight=r at *
   generalize hbb:k.format.binade=b at *
   have h1:=Nat.mod_lt r hbp
   have h2:=Nat.div_add_mod r b
   have h3:1≤r / b:=(Nat.le_div_iff_mul_le hbp).2 (by omega)
   refine ⟨by omega,by omega,fun _=>by omega,?_,rfl⟩
   have h4:(k.format.leastPlace+((r / b - 1:Nat):Int) - k.format.leastPlace).toNat=r / b - 1:=by omega
   rw[h4]
   generalize r / b=q at *
   obtain ⟨q,rfl⟩:∃ p,q=p+1:=⟨q - 1,by omega⟩
   rw[Nat.mul_add] at h2
   rw[Nat.add_sub_cancel,Nat.mul_comm q b]
   omega
  ·by_cases c3:x % k.format.signWeight=k.format.infRung
   ·simp only[if_neg c1,if_neg c2,if_pos c3] at h;cases h
   ·simp only[if_neg c1,if_neg c2,if_neg c3] at h;cases h
theorem Wu {k:FloatKind} {m m':Nat} {e e':Int} (h1:m<2 * k.format.binade) (h1':m'<2 * k.format.binade) (h2:k.format.leastPlace≤e) (h2':k.format.leastPlace≤e') (h3:k.format.leastPlace<e→k.format.binade≤m) (h3':k.format.leastPlace<e'→k.format.binade≤m') (h:mv m e=mv m' e'):m=m'∧e=e' :=by
 have key:∀ {m m':Nat} {e e':Int},m<2 * k.format.binade→k.format.leastPlace≤e→(k.format.leastPlace<e'→k.format.binade≤m')→mv m e=mv m' e'→¬ e<e' :=by
  intro m m' e e' a1 a2 a3 a4 a5
  have e1:mv m' e'=mv (m' * 2 ^ (e' - e).toNat) e:=by rw[Bo];congr 1;omega
  rw[e1] at a4
  have h5:=C4.1 (show mv (m' * 2 ^ (e' - e).toNat) e≤mv m e by rw[a4];exact Rat.le_refl)
  have h6:=a3 (by omega)
  have h7:2 ^ 1≤2 ^ (e' - e).toNat:=Nat.pow_le_pow_right (by decide) (by omega)
  have h8:k.format.binade * 2≤m' * 2 ^ (e' - e).toNat:=Nat.mul_le_mul h6 h7
  omega
 have h4:=key h1 h2 h3' h
 have h5:=key h1' h2' h3 h.symm
 have he:e=e' :=by omega
 subst he
 refine ⟨?_,rfl⟩
 have h6:=C4.1 (show mv m e≤mv m' e by rw[h];exact Rat.le_refl)
 have h7:=C4.1 (show mv m' e≤mv m e by rw[h];exact Rat.le_refl)
 omega
theorem UT {k:FloatKind} {x y:Nat} {s:Bool} {m m':Nat} {e e':Int} (hx:x<2 * k.format.signWeight) (hy:y<2 * k.format.signWeight) (h:k.decode x = .number s m e) (h':k.decode y = .number s m' e') (hv:mv m e=mv m' e'):x=y:=by
 obtain ⟨a1,a2,a3,a4,a5⟩:=CW h
 obtain ⟨b1,b2,b3,b4,b5⟩:=CW h'
 obtain ⟨rfl,rfl⟩:=Wu a1 b1 a2 b2 a3 b3 hv
 have hp:0<k.format.signWeight:=by omega
 have h1:x % k.format.signWeight=y % k.format.signWeight:=by rw[a4,b4]
 have q1:x / k.format.signWeight<2:=(Nat.div_lt_iff_lt_mul hp).2 hx
 have q2:y / k.format.signWeight<2:=(Nat.div_lt_iff_lt_mul hp).2 hy
 rw[Nat.mod_eq_of_lt q1] at a5
 rw[Nat.mod_eq_of_lt q2] at b5
 have h2:x / k.format.signWeight=y / k.format.signWeight:=by
  have:(x / k.format.signWeight==1)=(y / k.format.signWeight==1):=by rw[a5,b5]
  generalize x / k.format.signWeight=p at *
  generalize y / k.format.signWeight=q at *
  rcases Nat.lt_or_ge p 1 with c1 | c1 <;>rcases Nat.lt_or_ge q 1 with c2 | c2
  ·omega
  ·obtain rfl:p=0:=by omega
   obtain rfl:q=1:=by omega
   cases this
  ·obtain rfl:p=1:=by omega
   obtain rfl:q=0:=by omega
   cases this
  ·omega
 rw[← Nat.div_add_mod x k.format.signWeight,← Nat.div_add_mod y k.format.signWeight,h1,h2]
theorem GQ (f:Ieee.Format) (s:Bool) (m:Nat) (e:Int):f.nearest s m e=f.word s (f.nearest false m e):=by
 unfold Ieee.Format.nearest
 by_cases hm:m=0
 ·rw[if_pos hm,if_pos hm];rfl
 ·rw[if_neg hm,if_neg hm];rfl
theorem Et (k:FloatKind) (m:Nat) (e:Int):k.format.nearest false m e≤k.format.infRung:=by
 unfold Ieee.Format.nearest
 by_cases hm:m=0
 ·rw[if_pos hm];exact Nat.zero_le _
 ·rw[if_neg hm];exact Nat.min_le_right _ _
theorem Nw (k:FloatKind) (s:Bool) {r:Nat} (h:r≤k.format.infRung):k.format.word s r<2 * k.format.signWeight:=by
 have:=IL k
 unfold Ieee.Format.word
 split <;>omega
theorem JV (k:FloatKind) (s:Bool) {m:Nat} {e:Int} (h:DX k (mv m e)) (hf:mv m e<p2 (GK k)):∃ m' e',k.decode (k.encode (.number s m e)) = .number s m' e'∧mv m' e'=mv m e:=by
 obtain ⟨m',e',r1,-,-,r4⟩:=M8 k s m e h Rat.le_refl hf
 obtain ⟨c1,c2⟩:=r4 _ h
 have h1:=c1 Rat.le_refl
 have h2:=c2 Rat.le_refl
 exact ⟨m',e',r1,by grind⟩
theorem LP {x:Nat} {s:Bool} {m:Nat} {e:Int} (h:FloatKind.f32.decode x = .number s m e):CY x=FloatKind.f64.encode (.number s m e)∧∃ m' e',FloatKind.f64.decode (CY x) = .number s m' e'∧mv m' e'=mv m e:=by
 obtain ⟨h1,h2,h3⟩:=DV (x:=x) h
 have hr:DX .f64 (mv m e):=⟨m,e,Nat.le_trans (Nat.le_of_lt h1) (by decide),(show (-1074:Int)≤e by omega),rfl⟩
 obtain ⟨m',e',r1,r2⟩:=JV .f64 s hr (hZ (Q5 h) (KV (by decide)))
 have hw:=Cs x
 unfold Ar at hw
 rw[if_neg (by decide),h] at hw
 simp only[r1,Ieee.Datum.isInfinity] at hw
 have hw:FloatKind.f64.encode (.number s m e)=CY x:=by simpa using hw
 rw[← hw]
 exact ⟨rfl,m',e',r1,r2⟩
theorem T9 {x:Nat} (hx:x<4294967296) (hn:isNaN .f32 x=false):Ar .f64 (CY x) .f32=some x:=by
 have hw:=Cs x
 unfold Ar at hw
 rw[if_neg (by decide)] at hw
 cases hd:FloatKind.f32.decode x with
 | nan s t=>unfold isNaN at hn;rw[hd] at hn;cases hn
 | infinity s =>
   rw[hd] at hw
   simp only[zS] at hw
   rw[← hw]
   have hd:FloatKind.f32.format.read x = .infinity s:=hd
   have hxx:x=FloatKind.f32.encode (.infinity s):=by
    unfold Ieee.Format.read at hd
    by_cases c1:x % FloatKind.f32.format.signWeight<FloatKind.f32.format.binade
    ·simp only[if_pos c1] at hd;cases hd
    ·by_cases c2:x % FloatKind.f32.format.signWeight<FloatKind.f32.format.infRung
     ·simp only[if_neg c1,if_pos c2] at hd;cases hd
     ·by_cases c3:x % FloatKind.f32.format.signWeight=FloatKind.f32.format.infRung
      ·simp only[if_neg c1,if_neg c2,if_pos c3] at hd
       have hs:(x / FloatKind.f32.format.signWeight % 2==1)=s:=by cases hd;rfl
       have e1:FloatKind.f32.format.signWeight=2147483648:=rfl
       have e2:FloatKind.f32.format.infRung=2139095040:=rfl
       rw[e1] at c3 hs
       rw[e2] at c3
       cases s
       ·have:¬ (x / 2147483648 % 2=1):=by simpa using hs
        show x=2139095040
        omega
       ·have:x / 2147483648 % 2=1:=by simpa using hs
        show x=2147483648+2139095040
        omega
      ·simp only[if_neg c1,if_neg c2,if_neg c3] at hd;cases hd
   rw[hxx]
   cases s <;>rfl
 | number s m e =>
   obtain ⟨-,m',e',k1,k2⟩:=LP hd
   obtain ⟨h1,h2,h3⟩:=DV (x:=x) hd
   have hr:DX .f32 (mv m' e'):=⟨m,e,Nat.le_trans (Nat.le_of_lt h1) (by decide),h2,k2⟩
   obtain ⟨m2,e2,r1,r2⟩:=JV .f32 s hr (by
    rw[k2]
    have h4:mv m e<mv (2 ^ 24) e:=IA.2 h1
    rw[CR] at h4
    have h5:p2 (e+((24:Nat):Int))≤p2 128:=It (by omega)
    show mv m e<p2 128
    grind)
   unfold Ar
   rw[if_neg (by decide),k1]
   simp only[r1,Ieee.Datum.isInfinity]
   have hz:FloatKind.f32.encode (.number s m' e')<2 * FloatKind.f32.format.signWeight:=by
    show FloatKind.f32.format.nearest s m' e'<_
    rw[GQ]
    exact Nw _ _ (Et _ _ _)
   have:=UT (k:=.f32) hz (show x<2 * FloatKind.f32.format.signWeight from hx) r1 hd (by rw[r2,k2])
   rw[this];simp
def BF (x:Nat):Nat:=if isNaN .f32 x then D6 .f32 else x % 2147483648
theorem Ei {x:Nat}:(∀ s m e,FloatKind.f32.decode x = .number s m e→FloatKind.f32.decode (x % 2147483648) = .number false m e)∧(∀ s,FloatKind.f32.decode x = .infinity s→FloatKind.f32.decode (x % 2147483648) = .infinity false):=by
 have hw:FloatKind.f32.format.signWeight=2147483648:=rfl
 have hr:x % 2147483648 % FloatKind.f32.format.signWeight=x % FloatKind.f32.format.signWeight:=by rw[hw,Nat.mod_mod]
 have hs:(x % 2147483648 / FloatKind.f32.format.signWeight % 2==1)=false:=by
  rw[hw,Nat.div_eq_of_lt (Nat.mod_lt _ (by decide))];rfl
 constructor
 ·intro s m e h
  have h:FloatKind.f32.format.read x = .number s m e:=h
  show FloatKind.f32.format.read (x % 2147483648)=_
  unfold Ieee.Format.read at h ⊢
  simp only[hr,hs]
  by_cases c1:x % FloatKind.f32.format.signWeight<FloatKind.f32.format.binade
  ·simp only[if_pos c1] at h ⊢;cases h;rfl
  ·by_cases c2:x % FloatKind.f32.format.signWeight<FloatKind.f32.format.infRung
   ·simp only[if_neg c1,if_pos c2] at h ⊢;cases h;rfl
   ·by_cases c3:x % FloatKind.f32.format.signWeight=FloatKind.f32.format.infRung
    ·simp only[if_neg c1,if_neg c2,if_pos c3] at h;cases h
    ·simp only[if_neg c1,if_neg c2,if_neg c3] at h;cases h
 ·intro s h
  have h:FloatKind.f32.format.read x = .infinity s:=h
  show FloatKind.f32.format.read (x % 2147483648)=_
  unfold Ieee.Format.read at h ⊢
  simp only[hr,hs]
  by_cases c1:x % FloatKind.f32.format.signWeight<FloatKind.f32.format.binade
  ·simp only[if_pos c1] at h;cases h
  ·by_cases c2:x % FloatKind.f32.format.signWeight<FloatKind.f32.format.infRung
   ·simp only[if_neg c1,if_pos c2] at h;cases h
   ·by_cases c3:x % FloatKind.f32.format.signWeight=FloatKind.f32.format.infRung
    ·simp only[if_neg c1,if_neg c2,if_pos c3]
    ·simp only[if_neg c1,if_neg c2,if_neg c3] at h;cases h
theorem VY (s:Bool) {r:Nat} (h:r≤FloatKind.f64.format.infRung):FloatKind.f64.format.word s r % 9223372036854775808=r:=by
 have h1:FloatKind.f64.format.infRung=9218868437227405312:=rfl
 have h2:FloatKind.f64.format.signWeight=9223372036854775808:=rfl
 unfold Ieee.Format.word
 rw[h2]
 rw[h1] at h
 split <;>omega
theorem Jp {x:Nat} (hn:isNaN .f32 x=false):CY x % 9223372036854775808=CY (x % 2147483648)∧isNaN .f64 (CY x)=false∧CY x<18446744073709551616:=by
 have h2:(2 * FloatKind.f64.format.signWeight:Nat)=18446744073709551616:=rfl
 cases hd:FloatKind.f32.decode x with
 | nan s t=>unfold isNaN at hn;rw[hd] at hn;cases hn
 | infinity s =>
   have e1:∀ y t,FloatKind.f32.decode y = .infinity t→CY y=FloatKind.f64.encode (.infinity t):=by
    intro y t h
    have hw:=Cs y
    unfold Ar at hw
    rw[if_neg (by decide),h] at hw
    simpa using hw.symm
   rw[e1 _ _ hd,e1 _ _ (Ei.2 s hd)]
   cases s <;>refine ⟨by decide,by decide,by decide⟩
 | number s m e =>
   obtain ⟨w1,m',e',k1,-⟩:=LP hd
   obtain ⟨w2,-⟩:=LP (Ei.1 s m e hd)
   refine ⟨?_,by unfold isNaN;rw[k1];rfl,?_⟩
   ·rw[w1,w2]
    show FloatKind.f64.format.nearest s m e % _=FloatKind.f64.format.nearest false m e
    rw[GQ,VY _ (Et _ _ _)]
   ·rw[w1,← h2]
    show FloatKind.f64.format.nearest s m e<_
    rw[GQ]
    exact Nw _ _ (Et _ _ _)
theorem au {x:Nat} (hx:x<4294967296) (hc:At .f32 x=x) (n:Nat):Qo (n+1) (CY x)=some (Pz (CY x))∧Ar .f64 (Pz (CY x)) .f32=some (BF x):=by
 cases hn:isNaN .f32 x
 ·obtain ⟨h1,h2,h3⟩:=Jp hn
  refine ⟨by show (if CY x<18446744073709551616 then some (Pz (CY x)) else none)=_;rw[if_pos h3],?_⟩
  have e1:Pz (CY x)=CY (x % 2147483648):=by unfold Pz;rw[h2,← h1];rfl
  have e2:BF x=x % 2147483648:=by unfold BF;rw[hn];rfl
  rw[e1,e2]
  refine T9 (by omega) ?_
  rw[Jx] at hn ⊢
  rw[Nat.mod_mod];exact hn
 ·have hq:x=D6 .f32:=by rw[← hc,BY hn]
  subst hq
  refine ⟨?_,by decide +kernel⟩
  show (if CY (D6 .f32)<18446744073709551616 then some (Pz (CY (D6 .f32))) else none)=_
  rw[if_pos (by decide +kernel)]
theorem Hs (k:FloatKind):CI k 0 0:=by
 have h:k.decode 0 = .number false 0 k.format.leastPlace:=by cases k <;>decide
 have:=BL h
 rwa [A5,Cd] at this
theorem aa {x:Nat} (hx:x<4294967296) (hn:isNaN .f32 x=false):(flt .f32 x 0=true→He .f32 x=BF x)∧(flt .f32 x 0=false→x=2147483648∨x=BF x)∧He .f32 2147483648=BF 2147483648:=by
 have hs:BF x=x % 2147483648:=by unfold BF;rw[hn];rfl
 have hneg:2147483648≤x→He .f32 x=x % 2147483648:=by
  intro h
  unfold He
  rw[hn]
  show x ^^^ 2 ^ 31=_
  obtain ⟨y,rfl⟩:∃ y,x=2 ^ 31+y:=⟨x - 2147483648,by omega⟩
  have hy:y<2 ^ 31:=by omega
  rw[show 2 ^ 31+y=2 ^ 31 * 1+y by omega,Nat.two_pow_add_eq_or_of_lt hy,Nat.mul_one,show (2147483648:Nat)=2 ^ 31 from rfl]
  apply Nat.eq_of_testBit_eq
  intro i
  have hyi:31≤i→y.testBit i=false:=fun h=>Nat.testBit_lt_two_pow (Nat.lt_of_lt_of_le hy (Nat.pow_le_pow_right (by decide) h))
  rw[Nat.testBit_mod_two_pow,Nat.testBit_xor,Nat.testBit_or,Nat.testBit_two_pow]
  by_cases hi:31=i
  ·subst hi;simp[hyi]
  ·rcases Nat.lt_or_ge i 31 with h1 | h1
   ·simp[hi,h1]
   ·simp[hi,hyi h1]
 rw[hs]
 refine ⟨fun h => ?_,fun h => ?_,by decide⟩
 ·rcases Nat.lt_or_ge x 2147483648 with h1 | h1
  ·exfalso
   cases hd:FloatKind.f32.decode x with
   | nan s t=>unfold isNaN at hn;rw[hd] at hn;cases hn
   | infinity s =>
     have h2:=Ei.2 s hd
     rw[Nat.mod_eq_of_lt h1] at h2
     have h2:FloatKind.f32.format.read x = .infinity false:=h2
     have h0:FloatKind.f32.format.read 0 = .number false 0 (-149):=by decide
     simp[flt,Ieee.Format.order,h2,h0,Ieee.Datum.order] at h
   | number s m e =>
     have h2:=Ei.1 s m e hd
     rw[Nat.mod_eq_of_lt h1] at h2
     have:=(N6 (BL h2) (Hs .f32)).1 h
     have h3:=Ap m e
     rw[A5] at this
     grind
  ·exact hneg h1
 ·rcases Nat.lt_or_ge x 2147483648 with h1 | h1
  ·right;omega
  ·left
   cases hd:FloatKind.f32.decode x with
   | nan s t=>unfold isNaN at hn;rw[hd] at hn;cases hn
   | infinity s =>
     exfalso
     have h0:FloatKind.f32.format.read 0 = .number false 0 (-149):=by decide
     have hd:FloatKind.f32.format.read x = .infinity s:=hd
     cases s
     ·have hd' :=hd
      unfold Ieee.Format.read at hd
      have hw:FloatKind.f32.format.signWeight=2147483648:=rfl
      have hq:(x / FloatKind.f32.format.signWeight % 2==1)=true:=by
       rw[hw]
       have:x / 2147483648=1:=by omega
       rw[this];rfl
      by_cases c1:x % FloatKind.f32.format.signWeight<FloatKind.f32.format.binade
      ·simp only[if_pos c1] at hd;cases hd
      ·by_cases c2:x % FloatKind.f32.format.signWeight<FloatKind.f32.format.infRung
       ·simp only[if_neg c1,if_pos c2] at hd;cases hd
       ·by_cases c3:x % FloatKind.f32.format.signWeight=FloatKind.f32.format.infRung
        ·simp only[if_neg c1,if_neg c2,if_pos c3,hq] at hd;cases hd
        ·simp only[if_neg c1,if_neg c2,if_neg c3] at hd;cases hd
     ·simp[flt,Ieee.Format.order,hd,h0,Ieee.Datum.order] at h
   | number s m e =>
     obtain ⟨a1,a2,a3,a4,a5⟩:=CW hd
     have hw:FloatKind.f32.format.signWeight=2147483648:=rfl
     rw[hw] at a4 a5
     have hq:x / 2147483648=1:=by omega
     rw[hq] at a5
     have hst:s=true:=by rw[← a5];rfl
     subst hst
     rcases Nat.eq_zero_or_pos m with h2 | h2
     ·subst h2
      have h5:e=FloatKind.f32.format.leastPlace:=by
       rcases Int.lt_or_le FloatKind.f32.format.leastPlace e with h6 | h6
       ·have:=a3 h6
        have:FloatKind.f32.format.binade=8388608:=rfl
        omega
       ·omega
      rw[h5,Int.sub_self] at a4
      simp at a4
      omega
     ·exfalso
      have h3:flt .f32 x 0=true:=by
       rw[N6 (BL hd) (Hs .f32)]
       have:=IA (e:=e) |>.2 h2
       rw[Cd] at this
       rw[Cj];grind
      rw[h3] at h;cases h
theorem an {x:Nat} (hn:isNaN .f32 x=true):BF x=D6 .f32:=by unfold BF;rw[hn];rfl
theorem SX (k:FloatKind) (x:Nat):TG k x x=isNaN k x:=by
 rw[Sw]
 cases h:isNaN k x
 ·rw[Z1 h];rfl
 ·obtain ⟨s,t,e⟩:=Fj h
  simp[Nz,Ieee.Format.order,e,Ieee.Datum.order]
theorem cS {k:FloatKind} {x:Nat} (y:Nat) (h:isNaN k x=true):flt k x y=false:=by
 obtain ⟨s,t,e⟩:=Fj h
 simp[flt,Ieee.Format.order,e,Ieee.Datum.order]
theorem Wk.lt32 {x:Nat} (h:Wk .f32 x):x<4294967296:=by
 have:=h.2
 simpa [Lit.wf] using this
theorem AV {α:Type} (x y:Option α):br true x y=x:=rfl
theorem Af {α:Type} (x y:Option α):br false x y=y:=rfl
theorem Ay {α:Type} (x:Option α):gd true x=x:=rfl
theorem AJ {α β:Type} (a:α) (k:α→Option β):bd (some a) k=k a:=rfl
theorem mb {A B γ:Type} (a:A) (f:A→γ) (g:B→γ):sm (.inl a) f g=f a:=rfl
theorem ZX {A B γ:Type} (a:B) (f:A→γ) (g:B→γ):sm (.inr a) f g=g a:=rfl
theorem IT {α:Type} (b:Bool) (x y:Option α):br (!b) x y=br b y x:=by cases b <;>rfl
section
variable {p zs:List Nat} {z:Nat} {k:FloatKind}
theorem CD:BR (AL k (p++z::zs)) p.length=z:=by simp[Cy,List.getD]
theorem Ba:AI [.flt k] (AL k (p++z::zs)) p.length=true:=BH (by simp)
theorem BS {α:Type} (p:List α):((p.length:Nat):Int).toNat=p.length:=rfl
end
section
variable {p zs:List Int} {z:Int} {k:IntKind}
end
section
variable {α:Type} {p zs:List α} {z:α}
theorem DB:decide ((p.length:Int)<((p++z::zs).length:Int))=true:=by simp;omega
theorem Cu:decide ((0:Int)≤(p.length:Int)∧(p.length:Int)<((p++z::zs).length:Int))=true:=by simp;omega
theorem DD:decide ((p.length:Int)<((p++[]).length:Int))=false:=by simp
theorem Bt (h:p.length<4611686018427387904):IntKind.i64.wrap ((p.length:Int)+1)=(((p++[z]).length:Nat):Int):=by rw[AZ (by omega)];simp
theorem An (h:p.length<2147483648):Nat.ble (p.length+1) 2147483648=true:=by rw[Nat.ble_eq];omega
theorem A6:p.length+1=(p++[z]).length:=by simp
end
theorem B4 (k:FloatKind) (p:List Nat) (y:Nat):AL k p++AF (reps 1 [T.flt k 0]) 0 [T.flt k y]=AL k (p++[y]):=by simp[AL,AF,reps]
theorem I3 (k:FloatKind) (xs:List Nat) (i:Nat):(AL k xs).take i=AL k (xs.take i):=by simp[AL,List.map_take]
theorem MI (k:FloatKind) (xs:List Nat) (i:Nat):(AL k xs).drop i=AL k (xs.drop i):=by simp[AL,List.map_drop]
def BX (x:Nat):Prop:=x<4294967296∧At .f32 x=x
theorem Wk.w32 {x:Nat} (h:Wk .f32 x):BX x:=⟨h.lt32,h.1⟩
theorem Hz:BX (D6 .f32):=⟨by decide,by decide⟩
theorem LQ (k:FloatKind) {d:Ieee.Datum} (h:∀ s t,d ≠ .nan s t):k.format.write d<2 * k.format.signWeight:=by
 cases d with
 | nan s t=>exact absurd rfl (h s t)
 | infinity s=>exact Nw k s (Nat.le_refl _)
 | number s m e =>
   show k.format.nearest s m e<_
   rw[GQ]
   exact Nw k s (Et k m e)
theorem Jv {d:Ieee.Datum} (h:∀ s t,d ≠ .nan s t):BX (FloatKind.f32.format.write d):=⟨LQ .f32 h,BA (Gc h)⟩
theorem BV (x y:Nat):BX (Au .f32 x y):=by
 unfold Au Ieee.Format.add
 cases h:(FloatKind.f32.format.read x).sum (FloatKind.f32.format.read y) with
 | none=>exact Hz
 | some d=>exact Jv (fun s t e=>F0 h s t e)
theorem Ck (x y:Nat):BX (BW .f32 x y):=by
 unfold BW Ieee.Format.sub
 cases h:(FloatKind.f32.format.read x).sum (FloatKind.f32.format.read y).opposite with
 | none=>exact Hz
 | some d=>exact Jv (fun s t e=>F0 h s t e)
theorem G8 (x y:Nat):BX (AM .f32 x y):=by
 unfold AM Ieee.Format.mul
 cases h:(FloatKind.f32.format.read x).product (FloatKind.f32.format.read y) with
 | none=>exact Hz
 | some d=>exact Jv (fun s t e=>F5 h s t e)
theorem E7 (x y:Nat):BX (fdiv .f32 x y):=by
 unfold fdiv Ieee.Format.div
 cases h:(FloatKind.f32.format.read x).quotient (FloatKind.f32.format.fractionBits+2) (FloatKind.f32.format.read y) with
 | none=>exact Hz
 | some d=>exact Jv (fun s t e=>H8 h s t e)
theorem Ym {x:Nat} (h:x<4294967296):BX (At .f32 x):=by
 unfold At
 split
 ·exact Hz
 ·rename_i hn
  exact ⟨h,by rw[BA (by simpa using hn)]⟩
theorem BZ:BX 0:=⟨by decide,by decide⟩
def ED (bs:List Int):Prop:=∀ b∈bs,0≤b∧b≤255
theorem O7 {bs:List Int} (h:∀ b∈bs,JS .u8 b):ED bs:=fun b hb=>by
 have:=h b hb
 unfold JS at this
 have e1:IntKind.u8.min=0:=by decide
 have e2:IntKind.u8.max=255:=by decide
 omega
theorem R4 (n:Nat):IntKind.u64.wrap (n:Int)=(n:Int) % 18446744073709551616:=by simp[IntKind.wrap,IntKind.bits,IntKind.signed]
theorem Tk {i:Int} (h0:0≤i) (h1:i<4294967296):IntKind.u32.wrap i=i:=by
 rw[show IntKind.u32.wrap i=i % 4294967296 by simp[IntKind.wrap,IntKind.bits,IntKind.signed]]
 omega
theorem Yr (x:Int):0≤IntKind.i64.wrap (intBits BinOp.and IntKind.u64 x 255)∧IntKind.i64.wrap (intBits BinOp.and IntKind.u64 x 255)≤255:=by
 have h:(BitVec.ofInt 64 x &&& BitVec.ofInt 64 255).toNat≤255:=by
  rw[BitVec.toNat_and,show (BitVec.ofInt 64 255).toNat=255 by decide]
  exact Nat.and_le_right
 have e:intBits BinOp.and IntKind.u64 x 255=(((BitVec.ofInt 64 x &&& BitVec.ofInt 64 255).toNat:Nat):Int):=by
  show IntKind.u64.wrap (((BitVec.ofInt 64 x &&& BitVec.ofInt 64 255).toNat:Nat):Int)=_
  rw[R4];omega
 rw[e,BD] <;>omega
def Lo (x:Nat):Prop:=∃ m:Int,(-64≤m∧m≤64)∧(x=fdiv .f32 (FloatKind.f32.nearest m) 1088421888∨x=fdiv .f32 (FloatKind.f32.nearest m) 1098907648)
theorem Lo.w32 {x:Nat} (h:Lo x):BX x:=by
 obtain ⟨m,-,rfl | rfl⟩:=h <;>exact E7 _ _
section
variable {σ α β:Type}
def AR (f:σ→α→β × σ):σ→List α→List β × σ
 | s,[]=>([],s)
 | s,x::xs=>((f s x).1::(AR f (f s x).2 xs).1,(AR f (f s x).2 xs).2)
theorem HF (f:σ→α→β × σ):∀ (s:σ) (xs:List α),(AR f s xs).1.length=xs.length
 | s,[]=>rfl
 | s,x::xs=>by simp only[AR,length_cons,HF f _ xs]
end
def FF (k:FloatKind) (x:Nat):Nat:=x % k.format.signWeight
def Ws (k:FloatKind) (x:Nat):Bool:=x / k.format.signWeight % 2==1
def key (k:FloatKind) (x:Nat):Int:=if Ws k x then -(FF k x:Int) else (FF k x:Int)
theorem K7 (k:FloatKind):0<k.format.binade:=by cases k <;>decide
theorem Li {k:FloatKind} {x:Nat} {s:Bool} (h:k.decode x = .infinity s):FF k x=k.format.infRung∧Ws k x=s:=by
 have h:k.format.read x = .infinity s:=h
 unfold Ieee.Format.read at h
 by_cases c1:x % k.format.signWeight<k.format.binade
 ·simp only[if_pos c1] at h;cases h
 ·by_cases c2:x % k.format.signWeight<k.format.infRung
  ·simp only[if_neg c1,if_pos c2] at h;cases h
  ·by_cases c3:x % k.format.signWeight=k.format.infRung
   ·simp only[if_neg c1,if_neg c2,if_pos c3] at h;cases h;exact ⟨c3,rfl⟩
   ·simp only[if_neg c1,if_neg c2,if_neg c3] at h;cases h
theorem EC {k:FloatKind} {x:Nat} {s:Bool} {m:Nat} {e:Int} (h:k.decode x = .number s m e):FF k x<k.format.infRung∧Ws k x=s:=by
 refine ⟨?_,(CW h).2.2.2.2⟩
 have h:k.format.read x = .number s m e:=h
 unfold Ieee.Format.read at h
 have hb:k.format.binade<k.format.infRung:=by cases k <;>decide
 by_cases c1:x % k.format.signWeight<k.format.binade
 ·unfold FF;omega
 ·by_cases c2:x % k.format.signWeight<k.format.infRung
  ·exact c2
  ·by_cases c3:x % k.format.signWeight=k.format.infRung
   ·simp only[if_neg c1,if_neg c2,if_pos c3] at h;cases h
   ·simp only[if_neg c1,if_neg c2,if_neg c3] at h;cases h
theorem ax {k:FloatKind} {x y:Nat} {s t:Bool} {m n:Nat} {i j:Int} (h:k.decode x = .number s m i) (h':k.decode y = .number t n j) (hl:FF k x<FF k y):mv m i<mv n j:=by
 obtain ⟨a1,a2,a3,a4,-⟩:=CW h
 obtain ⟨b1,b2,b3,b4,-⟩:=CW h'
 unfold FF at hl
 rw[a4,b4] at hl
 have hB:=K7 k
 generalize k.format.binade=B at *
 generalize k.format.leastPlace=L at *
 rcases Int.lt_trichotomy i j with hij | rfl | hij
 ·have e1:mv n j=mv (n * 2 ^ (j - i).toNat) i:=by rw[Bo];congr 1;omega
  rw[e1,IA]
  have h6:=b3 (by omega)
  have h7:2 ^ 1≤2 ^ (j - i).toNat:=Nat.pow_le_pow_right (by decide) (by omega)
  have h8:B * 2≤n * 2 ^ (j - i).toNat:=Nat.mul_le_mul h6 h7
  omega
 ·rw[IA];omega
 ·exfalso
  have h6:=a3 (by omega)
  have:(i - L).toNat=(j - L).toNat+(i - j).toNat:=by omega
  rw[this,Nat.add_mul] at hl
  have:B≤(i - j).toNat * B:=Nat.le_mul_of_pos_left B (by omega)
  omega
theorem Zt {k:FloatKind} {x y:Nat} {s t:Bool} {m n:Nat} {i j:Int} (h:k.decode x = .number s m i) (h':k.decode y = .number t n j) (hl:FF k x=FF k y):mv m i=mv n j:=by
 obtain ⟨a1,a2,a3,a4,-⟩:=CW h
 obtain ⟨b1,b2,b3,b4,-⟩:=CW h'
 unfold FF at hl
 rw[a4,b4] at hl
 have hB:=K7 k
 generalize k.format.binade=B at *
 generalize k.format.leastPlace=L at *
 have:i=j:=by
  rcases Int.lt_trichotomy i j with hij | e | hij
  ·exfalso
   have h6:=b3 (by omega)
   have:(j - L).toNat=(i - L).toNat+(j - i).toNat:=by omega
   rw[this,Nat.add_mul] at hl
   have:B≤(j - i).toNat * B:=Nat.le_mul_of_pos_left B (by omega)
   omega
  ·exact e
  ·exfalso
   have h6:=a3 (by omega)
   have:(i - L).toNat=(j - L).toNat+(i - j).toNat:=by omega
   rw[this,Nat.add_mul] at hl
   have:B≤(i - j).toNat * B:=Nat.le_mul_of_pos_left B (by omega)
   omega
 subst this
 have:m=n:=by omega
 rw[this]
theorem Hv {k:FloatKind} {x:Nat} {s:Bool} {m:Nat} {i:Int} (h:k.decode x = .number s m i):(FF k x=0↔mv m i=0):=by
 obtain ⟨a1,a2,a3,a4,-⟩:=CW h
 have hB:=K7 k
 unfold FF
 rw[a4]
 constructor
 ·intro h0
  have:m=0:=by omega
  rw[this,Cd]
 ·intro h0
  have hm:m=0:=by
   rcases Nat.eq_zero_or_pos m with e | e
   ·exact e
   ·have h1:mv 0 i<mv m i:=IA.2 e
    rw[Cd,h0] at h1
    exact absurd h1 (by decide)
  subst hm
  have:¬ k.format.leastPlace<i:=fun h1=>by have:=a3 h1;omega
  have:(i - k.format.leastPlace).toNat=0:=by omega
  rw[this];simp
theorem Ci (a b:Int):(a<b∧compare a b = .lt)∨(a=b∧compare a b = .eq)∨(b<a∧compare a b = .gt):=by
 rcases Int.lt_trichotomy a b with h1 | h1 | h1
 ·exact .inl ⟨h1,by simp[compare,compareOfLessAndEq,h1]⟩
 ·subst h1;exact .inr (.inl ⟨rfl,by simp[compare,compareOfLessAndEq]⟩)
 ·exact .inr (.inr ⟨h1,by simp only[compare,compareOfLessAndEq];rw[if_neg (by omega),if_neg (by omega)]⟩)
theorem Pd {k:FloatKind} {x y:Nat} {s t:Bool} {m n:Nat} {i j:Int} (h:k.decode x = .number s m i) (h':k.decode y = .number t n j) (hl:key k x<key k y):sg s (mv m i)<sg t (mv n j):=by
 have hs:=(EC h).2
 have ht:=(EC h').2
 unfold key at hl
 rw[hs,ht] at hl
 have z1:=Hv h
 have z2:=Hv h'
 have p1:=Ap m i
 have p2:=Ap n j
 cases s <;>cases t <;>simp only[Bool.false_eq_true,if_false,if_true,sg] at hl ⊢
 ·exact ax h h' (by omega)
 ·omega
 ·rcases Nat.eq_zero_or_pos (FF k y) with e | e
  ·have:0<FF k x:=by omega
   have:mv m i≠0:=fun h0=>by rw[z1.2 h0] at this;omega
   have h0:=z2.1 e
   rw[h0];grind
  ·have:mv n j≠0:=fun h0=>by rw[z2.2 h0] at e;omega
   grind
 ·have:=ax h' h (by omega)
  grind
theorem V4 {k:FloatKind} {x y:Nat} {s t:Bool} {m n:Nat} {i j:Int} (h:k.decode x = .number s m i) (h':k.decode y = .number t n j) (hl:key k x=key k y):sg s (mv m i)=sg t (mv n j):=by
 have hs:=(EC h).2
 have ht:=(EC h').2
 unfold key at hl
 rw[hs,ht] at hl
 have z1:=Hv h
 have z2:=Hv h'
 cases s <;>cases t <;>simp only[Bool.false_eq_true,if_false,if_true,sg] at hl ⊢
 ·exact Zt h h' (by omega)
 ·rw[z1.1 (by omega),z2.1 (by omega)];rfl
 ·rw[z1.1 (by omega),z2.1 (by omega)];rfl
 ·rw[Zt h h' (by omega)]
theorem XP {k:FloatKind} {x y:Nat} (hx:isNaN k x=false) (hy:isNaN k y=false):k.format.order x y=some (compare (key k x) (key k y)):=by
 have inf_pos:∀ {z:Nat} {s:Bool},k.decode z = .infinity s→key k z=if s then -(k.format.infRung:Int) else (k.format.infRung:Int):=by
  intro z s h
  obtain ⟨h1,h2⟩:=Li h
  unfold key;rw[h1,h2]
 have fin_lt:∀ {z:Nat} {s:Bool} {m:Nat} {e:Int},k.decode z = .number s m e → -(k.format.infRung:Int)<key k z∧key k z<(k.format.infRung:Int):=by
  intro z s m e h
  obtain ⟨h1,h2⟩:=EC h
  unfold key;rw[h2]
  cases s <;>simp only[Bool.false_eq_true,if_false,if_true] <;>omega
 have hI:(0:Int)<(k.format.infRung:Int):=by cases k <;>decide
 have lt_c:∀ a b:Int,a<b→compare a b = .lt:=fun a b h=>by rcases Ci a b with ⟨h1,e⟩ | ⟨h1,e⟩ | ⟨h1,e⟩ <;>first | exact e | omega
 have gt_c:∀ a b:Int,b<a→compare a b = .gt:=fun a b h=>by rcases Ci a b with ⟨h1,e⟩ | ⟨h1,e⟩ | ⟨h1,e⟩ <;>first | exact e | omega
 have eq_c:∀ a b:Int,a=b→compare a b = .eq:=fun a b h=>by rcases Ci a b with ⟨h1,e⟩ | ⟨h1,e⟩ | ⟨h1,e⟩ <;>first | exact e | omega
 unfold isNaN at hx hy
 cases h1:k.decode x with
 | nan s f=>rw[h1] at hx;simp[Ieee.Datum.isNaN] at hx
 | infinity s =>
   cases h2:k.decode y with
   | nan s f=>rw[h2] at hy;simp[Ieee.Datum.isNaN] at hy
   | infinity t =>
     have e1:k.format.read x = .infinity s:=h1
     have e2:k.format.read y = .infinity t:=h2
     simp only[Ieee.Format.order,e1,e2,Ieee.Datum.order]
     rw[inf_pos h1,inf_pos h2]
     cases s <;>cases t <;>simp only[Bool.false_eq_true,if_false,if_true]
     ·rw[eq_c _ _ rfl];rfl
     ·rw[gt_c _ _ (by omega)];rfl
     ·rw[lt_c _ _ (by omega)];rfl
     ·rw[eq_c _ _ rfl];rfl
   | number t n j =>
     have e1:k.format.read x = .infinity s:=h1
     have e2:k.format.read y = .number t n j:=h2
     have:=fin_lt h2
     simp only[Ieee.Format.order,e1,e2,Ieee.Datum.order]
     rw[inf_pos h1]
     cases s <;>simp only[Bool.false_eq_true,if_false,if_true]
     ·rw[gt_c _ _ (by omega)]
     ·rw[lt_c _ _ (by omega)]
 | number s m i =>
   cases h2:k.decode y with
   | nan s f=>rw[h2] at hy;simp[Ieee.Datum.isNaN] at hy
   | infinity t =>
     have e1:k.format.read x = .number s m i:=h1
     have e2:k.format.read y = .infinity t:=h2
     have:=fin_lt h1
     simp only[Ieee.Format.order,e1,e2,Ieee.Datum.order]
     rw[inf_pos h2]
     cases t <;>simp only[Bool.false_eq_true,if_false,if_true]
     ·rw[lt_c _ _ (by omega)]
     ·rw[gt_c _ _ (by omega)]
   | number t n j =>
     obtain ⟨o1,o2,o3⟩:=EY (BL h1) (BL h2)
     rcases Ci (key k x) (key k y) with ⟨h3,e⟩ | ⟨h3,e⟩ | ⟨h3,e⟩
     ·rw[e];exact o1.2 (Pd h1 h2 h3)
     ·rw[e];exact o2.2 (V4 h1 h2 h3)
     ·rw[e];exact o3.2 (Pd h2 h1 h3)
section
variable {k:FloatKind} {x y:Nat}
theorem Rb (h:isNaN k x=true∨isNaN k y=true):k.format.order x y=none:=by
 unfold isNaN FloatKind.decode at h
 unfold Ieee.Format.order
 rcases h with h | h
 ·cases hr:k.format.read x with
  | nan s t=>simp[Ieee.Datum.order]
  | infinity s=>rw[hr] at h;cases h
  | number s m e=>rw[hr] at h;cases h
 ·cases hr:k.format.read y with
  | nan s t=>cases k.format.read x <;>simp[Ieee.Datum.order]
  | infinity s=>rw[hr] at h;cases h
  | number s m e=>rw[hr] at h;cases h
def I1 (k:FloatKind) (x y:Nat):Bool:=!isNaN k x && !isNaN k y
theorem Gn:k.format.order x y=if I1 k x y then some (compare (key k x) (key k y)) else none:=by
 unfold I1
 cases hx:isNaN k x
 ·cases hy:isNaN k y
  ·exact XP hx hy
  ·exact Rb (.inr hy)
 ·exact Rb (.inl hx)
theorem dG:flt k x y=(I1 k x y&&decide (key k x<key k y)):=by
 unfold flt
 rw[Gn]
 cases I1 k x y
 ·rfl
 ·rcases Ci (key k x) (key k y) with ⟨h,e⟩ | ⟨h,e⟩ | ⟨h,e⟩ <;>rw[if_pos rfl,e] <;>simp <;>omega
theorem cr:F4 k x y=(I1 k x y&&decide (key k y<key k x)):=by
 unfold F4
 rw[Gn]
 cases I1 k x y
 ·rfl
 ·rcases Ci (key k x) (key k y) with ⟨h,e⟩ | ⟨h,e⟩ | ⟨h,e⟩ <;>rw[if_pos rfl,e] <;>simp <;>omega
theorem Wj:Nz k x y=(I1 k x y&&decide (key k x=key k y)):=by
 unfold Nz
 rw[Gn]
 cases I1 k x y
 ·rfl
 ·rcases Ci (key k x) (key k y) with ⟨h,e⟩ | ⟨h,e⟩ | ⟨h,e⟩ <;>rw[if_pos rfl,e] <;>simp <;>omega
theorem cd:VQ k x y=(I1 k x y&&decide (key k x≤key k y)):=by
 unfold VQ
 rw[Gn]
 cases I1 k x y
 ·rfl
 ·rcases Ci (key k x) (key k y) with ⟨h,e⟩ | ⟨h,e⟩ | ⟨h,e⟩ <;>rw[if_pos rfl,e] <;>simp <;>omega
theorem bh:Ly k x y=(I1 k x y&&decide (key k y≤key k x)):=by
 unfold Ly
 rw[Gn]
 cases I1 k x y
 ·rfl
 ·rcases Ci (key k x) (key k y) with ⟨h,e⟩ | ⟨h,e⟩ | ⟨h,e⟩ <;>rw[if_pos rfl,e] <;>simp <;>omega
theorem cM:TG k x y = !(I1 k x y&&decide (key k x=key k y)):=by rw[Sw,Wj]
end
theorem NX {x:Nat} (h:x<4294967296):key .f32 x=if x<2147483648 then (x:Int) else -((x:Int) - 2147483648):=by
 have hw:FloatKind.f32.format.signWeight=2147483648:=rfl
 unfold key Ws FF
 rw[hw]
 by_cases c:x<2147483648
 ·rw[if_pos c,Nat.div_eq_of_lt c,Nat.mod_eq_of_lt c];rfl
 ·have:x / 2147483648=1:=by omega
  rw[if_neg c,this,if_pos (by decide)]
  omega
theorem ZO {x:Nat} (h:x<4294967296) (hn:isNaN .f32 x=false):He .f32 x=if x<2147483648 then x+2147483648 else x - 2147483648:=by
 unfold He
 rw[hn,if_neg (by decide)]
 show x ^^^ 2 ^ 31=_
 have key:∀ y:Nat,y<2147483648→y ^^^ 2 ^ 31=y+2147483648:=by
  intro y hy
  rw[Nat.add_comm,show (2147483648:Nat)=2 ^ 31 * 1 from rfl,Nat.two_pow_add_eq_or_of_lt (i:=31) (by simpa using hy)]
  apply Nat.eq_of_testBit_eq
  intro i
  rw[Nat.testBit_xor,Nat.testBit_or,Nat.mul_one,Nat.testBit_two_pow]
  by_cases e:31=i
  ·subst e;rw[Nat.testBit_lt_two_pow (by simpa using hy)];rfl
  ·simp[e]
 split
 ·rename_i c;exact key x c
 ·rename_i c
  have:=key (x - 2147483648) (by omega)
  rw[show x - 2147483648+2147483648=x by omega] at this
  rw[← this,Nat.xor_assoc,Nat.xor_self,Nat.xor_zero]
  rw[this]
theorem O6 {x:Nat}:isNaN .f32 x=decide (2139095040<x % 2147483648):=Jx x
theorem S9 {x:Nat} (h:x<4294967296) (hn:isNaN .f32 x=false):isNaN .f32 (He .f32 x)=false:=by
 rw[ZO h hn]
 rw[O6] at hn ⊢
 simp at hn ⊢
 split <;>omega
theorem Z0 {x:Nat} (h:BX x):BX (He .f32 x):=by
 cases hn:isNaN .f32 x
 ·refine ⟨?_,BA (S9 h.1 hn)⟩
  rw[ZO h.1 hn];have:=h.1;split <;>omega
 ·unfold He;rw[hn];exact Hz
def NU (xs:List Nat):T:=.lst xs.length (AL .f32 xs)
section
variable {p zs:List (List Int)} {z:List Int}
end
section
variable {p zs:List (List Nat)} {z:List Nat}
end
def Hb (x:Nat):Nat:=if x % 2147483648<8388608 then x / 2147483648 * 2147483648 else x
def RD (x:Nat):Bool:=decide (0<x % 2147483648∧x % 2147483648<8388608)
theorem Mg {x:Nat} (h:BX x):BX (Hb x):=by
 unfold Hb
 split
 ·have:=h.1
  refine ⟨by omega,BA ?_⟩
  rw[O6];simp
 ·exact h
theorem bq {x:Nat} (h:x<4294967296):(TG .f32 x 0&&(flt .f32 x 8388608&&F4 .f32 x 2155872256))=RD x:=by
 have e0:isNaN .f32 0=false:=by decide
 have e1:isNaN .f32 8388608=false:=by decide
 have e2:isNaN .f32 2155872256=false:=by decide
 rw[cM,dG,cr]
 unfold I1
 rw[e0,e1,e2,NX h,NX (show 0<4294967296 by decide),NX (show 8388608<4294967296 by decide),NX (show 2155872256<4294967296 by decide)]
 unfold RD
 cases hn:isNaN .f32 x
 ·rw[Bool.eq_iff_iff]
  simp
  split <;>omega
 ·rw[O6] at hn
  simp at hn
  rw[Bool.eq_iff_iff]
  simp
  omega
theorem XJ {x:Nat} (h:x<4294967296) (hn:isNaN .f32 x=false):CY x / 9223372036854775808=x / 2147483648:=by
 obtain ⟨-,h2,h3⟩:=Jp hn
 have hs:(CY x / 9223372036854775808 % 2==1)=(x / 2147483648 % 2==1):=by
  cases hd:FloatKind.f32.decode x with
  | nan s t=>unfold isNaN at hn;rw[hd] at hn;cases hn
  | infinity s =>
    have e1:=(Li hd).2
    have e2:CY x=FloatKind.f64.encode (.infinity s):=by unfold CY Ar;rw[if_neg (by decide),hd]
    have e3:FloatKind.f64.decode (CY x) = .infinity s:=by rw[e2];cases s <;>decide
    have e4:=(Li e3).2
    exact e4.trans e1.symm
  | number s m e =>
    have e1:=(EC hd).2
    obtain ⟨-,m',e',e3,-⟩:=LP hd
    have e4:=(EC e3).2
    exact e4.trans e1.symm
 rw[Bool.eq_iff_iff] at hs
 simp only[beq_iff_eq] at hs
 omega
theorem Nd:Ar .f64 0 .f32=some 0∧Ar .f64 9223372036854775808 .f32=some 2147483648:=by decide
theorem Xo (n:Nat) {x:Nat} (h:x<4294967296) (hn:isNaN .f32 x=false):∃ y,FM (n+1) 0 (CY x)=some y∧Ar .f64 y .f32=some (x / 2147483648 * 2147483648):=by
 obtain ⟨-,h2,h3⟩:=Jp hn
 have hs:=XJ h hn
 have e0:isNaN .f64 0=false:=by decide
 refine ⟨CY x / 9223372036854775808 * 9223372036854775808,?_,?_⟩
 ·show (if isNaN .f64 (CY x) then none else if isNaN .f64 0 then none else if 0<18446744073709551616∧CY x<18446744073709551616 then some (0 % 9223372036854775808+CY x / 9223372036854775808 * 9223372036854775808) else none)=_
  rw[h2,e0,if_neg (by decide),if_neg (by decide),if_pos ⟨by decide,h3⟩]
  simp
 ·rw[hs]
  have:x / 2147483648=0∨x / 2147483648=1:=by omega
  rcases this with e | e <;>rw[e]
  ·exact Nd.1
  ·exact Nd.2
abbrev SF:=Nat × Nat × Nat × Nat × Nat
abbrev Yn:=Nat × Nat × Nat × Nat
def fl? (b:Bool) (x:Nat):Nat:=if b then Hb x else x
theorem w32_fl? {b:Bool} {x:Nat} (h:BX x):BX (fl? b x):=by
 unfold fl?;split
 ·exact Mg h
 ·exact h
def UN (m:Yn):Prop:=BX m.1∧BX m.2.1∧BX m.2.2.1∧BX m.2.2.2
def BK (f:SF) (form:Int) (b:Bool) (m:Yn) (x:Nat):Nat × Yn :=
 if form=0 then
  let y:=fl? b (BW .f32 (BW .f32 (Au .f32 (Au .f32 (AM .f32 f.1 x) (AM .f32 f.2.1 m.1)) (AM .f32 f.2.2.1 m.2.1)) (AM .f32 f.2.2.2.1 m.2.2.1)) (AM .f32 f.2.2.2.2 m.2.2.2))
  (y,fl? b x,fl? b m.1,fl? b y,fl? b m.2.2.1)
 else if form=1 then
  let y:=fl? b (Au .f32 (AM .f32 f.1 x) m.1)
  (y,fl? b (Au .f32 (BW .f32 (AM .f32 f.2.1 x) (AM .f32 f.2.2.2.1 y)) m.2.1),fl? b (BW .f32 (AM .f32 f.2.2.1 x) (AM .f32 f.2.2.2.2 y)),fl? b 0,fl? b 0)
 else
  let w:=fl? b (BW .f32 (BW .f32 x (AM .f32 f.2.2.2.1 m.1)) (AM .f32 f.2.2.2.2 m.2.1))
  (fl? b (Au .f32 (Au .f32 (AM .f32 f.1 w) (AM .f32 f.2.1 m.1)) (AM .f32 f.2.2.1 m.2.1)),fl? b w,fl? b m.1,fl? b 0,fl? b 0)
theorem Mw {f:SF} {form:Int} {b:Bool} {m:Yn} {x:Nat} (hm:UN m) (hx:BX x):BX (BK f form b m x).1∧UN (BK f form b m x).2:=by
 obtain ⟨m1,m2,m3,m4⟩:=hm
 unfold BK
 split
 ·exact ⟨w32_fl? (Ck _ _),w32_fl? hx,w32_fl? m1,w32_fl? (w32_fl? (Ck _ _)),w32_fl? m3⟩
 ·split
  ·exact ⟨w32_fl? (BV _ _),w32_fl? (BV _ _),w32_fl? (Ck _ _),w32_fl? BZ,w32_fl? BZ⟩
  ·exact ⟨w32_fl? (BV _ _),w32_fl? (w32_fl? (Ck _ _)),w32_fl? m1,w32_fl? BZ,w32_fl? BZ⟩
section
variable {σ α β:Type} {f:σ→α→β × σ} {P:σ→Prop} {Q:α→Prop} {S:β→Prop}
theorem T5 (hf:∀ s x,P s→Q x→S (f s x).1∧P (f s x).2):∀ (xs:List α) (s:σ),P s→(∀ x∈xs,Q x)→(∀ y∈(AR f s xs).1,S y)∧P (AR f s xs).2
 | [],s,hs,_=>⟨by simp[AR],hs⟩
 | x::xs,s,hs,hx=>by
   obtain ⟨h1,h2⟩:=hf s x hs (hx x (by simp))
   obtain ⟨h3,h4⟩:=T5 hf xs _ h2 (fun y hy=>hx y (by simp[hy]))
   refine ⟨?_,h4⟩
   intro y hy
   simp only[AR,mem_cons] at hy
   rcases hy with rfl | hy
   ·exact h1
   ·exact h3 y hy
end
section
variable {p zs:List (Int × Nat)} {z:Int × Nat}
end
def NN (w:List Nat) (x:Nat):List Nat:=w.drop 1++[x]
theorem I9 {w:List Nat} {x:Nat} (h:0<w.length):(NN w x).length=w.length:=by unfold NN;simp;omega
def CO (x:Nat):Bool:=decide (x % 2147483648<2139095040)
theorem Wx {x:Nat} (h:CO x=true):isNaN .f32 x=false:=by
 unfold CO at h;rw[O6];simp at h ⊢;omega
theorem T7 {x:Nat} (h:CO x=true):∃ s m e,FloatKind.f32.decode x = .number s m e:=by
 cases hd:FloatKind.f32.decode x with
 | number s m e=>exact ⟨s,m,e,rfl⟩
 | infinity s =>
   have h1:=(Li hd).1
   unfold CO at h
   have e1:FloatKind.f32.format.infRung=2139095040:=by decide
   have e2:FF .f32 x=x % 2147483648:=rfl
   simp at h
   omega
 | nan s t =>
   have:=Wx h
   unfold isNaN at this
   rw[hd] at this;cases this
theorem Yc {x:Nat} (h:CO x=true):BW .f32 x x=0:=by
 obtain ⟨s,m,e,hd⟩:=T7 h
 have hd:FloatKind.f32.format.read x = .number s m e:=hd
 unfold BW Ieee.Format.sub
 rw[hd]
 simp only[Ieee.Datum.opposite,Ieee.Datum.sum]
 have e0:Ieee.signed s m (e - min e e).toNat+Ieee.signed (!s) m (e - min e e).toNat=0:=by
  unfold Ieee.signed
  cases s <;>simp <;>omega
 rw[e0]
 cases s <;>rfl
theorem PA (x:Nat):Nz .f32 (BW .f32 x x) 0=CO x:=by
 cases h:CO x
 ·
  have hN:isNaN .f32 (BW .f32 x x)=true:=by
   cases hd:FloatKind.f32.decode x with
   | number s m e =>
     have h1:=(EC hd).1
     have e1:FloatKind.f32.format.infRung=2139095040:=by decide
     have e2:FF .f32 x=x % 2147483648:=rfl
     unfold CO at h
     simp at h
     omega
   | infinity s =>
     have hd:FloatKind.f32.format.read x = .infinity s:=hd
     unfold BW Ieee.Format.sub
     rw[hd]
     cases s <;>decide
   | nan s t =>
     have hd:FloatKind.f32.format.read x = .nan s t:=hd
     unfold BW Ieee.Format.sub
     rw[hd]
     simp only[Ieee.Datum.sum,Option.map_none]
     decide
  rw[Wj];unfold I1;rw[hN];rfl
 ·rw[Yc h];decide
theorem Wd {x:Nat} (h:isNaN .f32 x=false):x % 2147483648≤2139095040:=by rw[O6] at h;simp at h;exact h
theorem LV {k:FloatKind} {x y:Nat} {a b B:Rat} (hx:CI k x a) (hy:CI k y b) (hB:DX k B) (hf:B<p2 (GK k)) (h1:a - b≤B) (h2 : -B≤a - b) :
  ∃ R,CI k (BW k x y) R∧Lr k (a - b) R:=by
 obtain ⟨s,m,i,e1,rfl,-⟩:=hx
 obtain ⟨t,n,j,e2,rfl,-⟩:=hy
 have e1:k.format.read x = .number s m i:=e1
 have e2:k.format.read y = .number t n j:=e2
 generalize hb:min i j=base
 generalize ht:Ieee.signed s m (i - base).toNat+Ieee.signed (!t) n (j - base).toNat=total
 have hadd:BW k x y=k.encode (.number (if total=0 then s && !t else total<0) total.natAbs base):=by
  simp only[BW,Ieee.Format.sub,e1,e2,Ieee.Datum.opposite,Ieee.Datum.sum,Option.map_some,hb,ht]
  rfl
 have hneg:sg (!t) (mv n j) = -sg t (mv n j):=by cases t <;>simp[sg]
 have hval:sg (if total=0 then s && !t else decide (total<0)) (mv total.natAbs base)=sg s (mv m i) - sg t (mv n j):=by
  rw[Rat.sub_eq_add_neg,← hneg,Mp,← ht,Rat.intCast_add,Rat.add_mul,Ds,Ds]
  congr 2 <;>congr 1 <;>omega
 rw[hadd,← hval]
 exact Ga k _ _ _ hB (M6 (Ap _ _) (by rw[hval];exact h1) (by rw[hval];exact h2)) hf
theorem Xc (k:FloatKind) (s:Bool) (m:Nat) (e:Int):k.encode (.number s m e)<2 * k.format.signWeight:=LQ k (by intro _ _ h;cases h)
theorem R8 (k:FloatKind) (x y:Nat):Au k x y<2 * k.format.signWeight:=by
 unfold Au Ieee.Format.add
 cases h:(k.format.read x).sum (k.format.read y) with
 | none=>cases k <;>decide
 | some d=>exact LQ k (fun s t e=>F0 h s t e)
theorem Wv (k:FloatKind) (x y:Nat):AM k x y<2 * k.format.signWeight:=by
 unfold AM Ieee.Format.mul
 cases h:(k.format.read x).product (k.format.read y) with
 | none=>cases k <;>decide
 | some d=>exact LQ k (fun s t e=>F5 h s t e)
theorem Pl (k:FloatKind) (n:Int):k.nearest n<2 * k.format.signWeight:=Xc k _ _ _
theorem Fr {k:FloatKind} {x y:Nat} {a:Rat} (hx:x<2 * k.format.signWeight) (hy:y<2 * k.format.signWeight) (h1:CI k x a) (h2:CI k y a) (ha:a≠0):x=y:=by
 obtain ⟨s,m,i,e1,h3,-⟩:=h1
 obtain ⟨t,n,j,e2,h4,-⟩:=h2
 have p1:=Ap m i
 have p2:=Ap n j
 have hst:s=t:=by
  cases s <;>cases t <;>simp only[Cj,A5] at h3 h4 <;>first | rfl | (exfalso;grind)
 subst hst
 refine UT hx hy e1 e2 ?_
 cases s <;>simp only[Cj,A5] at h3 h4 <;>grind
theorem GI (k:FloatKind) {B:Nat} (hB:B≤2 * k.format.binade):DX k (B:Rat):=by
 refine ⟨B,0,hB,by cases k <;>decide,?_⟩
 unfold mv;rw[Cp,Rat.mul_one]
theorem Ie (k:FloatKind) {B:Nat} (hB:B≤2 * k.format.binade):(B:Rat)<p2 (GK k):=by
 have h1:(B:Rat)≤((2 * k.format.binade:Nat):Rat):=by exact_mod_cast hB
 have h2:((2 * k.format.binade:Nat):Rat)<p2 (GK k):=by
  have:∃ j:Nat,2 * k.format.binade=2 ^ j∧(j:Int)<GK k:=by
   cases k
   ·exact ⟨24,by decide,by decide⟩
   ·exact ⟨53,by decide,by decide⟩
  obtain ⟨j,e,h⟩:=this
  rw[e,← LH]
  exact KV h
 exact hZ h1 h2
theorem XF {k:FloatKind} {n:Int} (hn:n.natAbs≤2 * k.format.binade):eP k (n:Rat):=(Dg hn).rep
theorem SD {n:Int}:(n:Rat)≤((n.natAbs:Nat):Rat) ∧ -((n.natAbs:Nat):Rat)≤(n:Rat):=by
 have h1:n≤((n.natAbs:Nat):Int):=by omega
 have h2 : -((n.natAbs:Nat):Int)≤n:=by omega
 have e:((n.natAbs:Nat):Rat)=(((n.natAbs:Nat):Int):Rat):=(Rat.intCast_natCast _).symm
 rw[e]
 refine ⟨Rat.intCast_le_intCast.2 h1,?_⟩
 rw[← Rat.intCast_neg]
 exact Rat.intCast_le_intCast.2 h2
theorem IK (k:FloatKind):k.nearest 0=0:=by cases k <;>decide
theorem cW {k:FloatKind} {a b:Int} (ha:a.natAbs≤2 * k.format.binade) (hb:b.natAbs≤2 * k.format.binade) (hab:(a+b).natAbs≤2 * k.format.binade):Au k (k.nearest a) (k.nearest b)=k.nearest (a+b):=by
 have va:=Dg (k:=k) ha
 have vb:=Dg (k:=k) hb
 by_cases h0:a+b=0
 ·rw[h0,IK]
  obtain ⟨s,m,i,e1,h1,-⟩:=va
  obtain ⟨t,n,j,e2,h2,-⟩:=vb
  have p1:=Ap m i
  have p2' :=Ap n j
  have hbv:(b:Rat) = -(a:Rat):=by
   have:b = -a:=by omega
   rw[this,Rat.intCast_neg]
  have hst:(s&&t)=false:=by
   by_cases h:a=0
   ·subst h
    rw[IK] at e1
    have:k.decode 0 = .number false 0 k.format.leastPlace:=by cases k <;>decide
    rw[this] at e1
    cases e1;rfl
   ·have hne:(a:Rat)≠0:=by exact_mod_cast h
    cases s <;>cases t <;>simp only[Cj,A5] at h1 h2 <;>first | rfl | (exfalso;grind)
  have e1:k.format.read (k.nearest a) = .number s m i:=e1
  have e2:k.format.read (k.nearest b) = .number t n j:=e2
  generalize hbase:min i j=base
  have ht:Ieee.signed s m (i - base).toNat+Ieee.signed t n (j - base).toNat=0:=by
   have h3:((Ieee.signed s m (i - base).toNat+Ieee.signed t n (j - base).toNat:Int):Rat) * p2 base=0:=by
    rw[Rat.intCast_add,Rat.add_mul,Ds,Ds]
    rw[show base+((i - base).toNat:Int)=i by omega,show base+((j - base).toNat:Int)=j by omega,← h1,← h2,hbv]
    grind
   have h4:=LG base
   have h5:((Ieee.signed s m (i - base).toNat+Ieee.signed t n (j - base).toNat:Int):Rat)=0:=by
    rcases Rat.mul_eq_zero.1 h3 with h | h
    ·exact h
    ·rw[h] at h4;exact absurd h4 (by decide)
   exact_mod_cast h5
  simp only[Au,Ieee.Format.add,e1,e2,Ieee.Datum.sum,Option.map_some,hbase,ht,hst]
  rfl
 ·have hv:(a:Rat)+(b:Rat)=((a+b:Int):Rat):=(Rat.intCast_add _ _).symm
  obtain ⟨h1,h2⟩:=SD (n:=a+b)
  obtain ⟨R,h3,h4⟩:=Lc va vb (GI k hab) (Ie k hab) (by rw[hv];exact h1) (by rw[hv];exact h2)
  rw[hv] at h4
  have h5:=h3.near_eq h4 (XF hab)
  exact Fr (R8 _ _ _) (Pl _ _) h5 (Dg hab) (by exact_mod_cast h0)
def Bd (k:FloatKind) (x:Nat) (B:Nat):Prop:=∃ v:Rat,CI k x v ∧ -(B:Rat)≤v∧v≤(B:Rat)
theorem Lr.bd {k:FloatKind} {v R:Rat} {B:Nat} (h:Lr k v R) (hB:B≤2 * k.format.binade) (h1:v≤(B:Rat)) (h2 : -(B:Rat)≤v) : -(B:Rat)≤R∧R≤(B:Rat) :=
 ⟨(h _ (GI k hB).neg).2 h2,(h _ (GI k hB).rep).1 h1⟩
theorem Bd.add {k:FloatKind} {x y A B:Nat} (hx:Bd k x A) (hy:Bd k y B) (h:A+B≤2 * k.format.binade):Bd k (Au k x y) (A+B):=by
 obtain ⟨v,h1,h2,h3⟩:=hx
 obtain ⟨w,h4,h5,h6⟩:=hy
 have e:=Rat.natCast_add A B
 have g1:v+w≤((A+B:Nat):Rat):=by rw[e];grind
 have g2 : -((A+B:Nat):Rat)≤v+w:=by rw[e];grind
 obtain ⟨R,q1,q2⟩:=Lc h1 h4 (GI k h) (Ie k h) g1 g2
 exact ⟨R,q1,q2.bd h g1 g2⟩
theorem Bd.sub {k:FloatKind} {x y A B:Nat} (hx:Bd k x A) (hy:Bd k y B) (h:A+B≤2 * k.format.binade):Bd k (BW k x y) (A+B):=by
 obtain ⟨v,h1,h2,h3⟩:=hx
 obtain ⟨w,h4,h5,h6⟩:=hy
 have e:=Rat.natCast_add A B
 have g1:v - w≤((A+B:Nat):Rat):=by rw[e];grind
 have g2 : -((A+B:Nat):Rat)≤v - w:=by rw[e];grind
 obtain ⟨R,q1,q2⟩:=LV h1 h4 (GI k h) (Ie k h) g1 g2
 exact ⟨R,q1,q2.bd h g1 g2⟩
theorem TI {v w A B:Rat} (hA:0≤A) (hB:0≤B) (h1 : -A≤v) (h2:v≤A) (h3 : -B≤w) (h4:w≤B) : -(A * B)≤v * w∧v * w≤A * B:=by
 have key:∀ v w:Rat,0≤v→0≤w→v≤A→w≤B→0≤v * w∧v * w≤A * B:=fun v w a b c d =>
  ⟨Rat.mul_nonneg a b,Rat.le_trans (Rat.mul_le_mul_of_nonneg_right c b) (Rat.mul_le_mul_of_nonneg_left d hA)⟩
 rcases (Rat.le_total:(0:Rat)≤v∨v≤0) with hv | hv <;>rcases (Rat.le_total:(0:Rat)≤w∨w≤0) with hw | hw
 ·have:=key v w hv hw h2 h4;grind
 ·have:=key v (-w) hv (by grind) h2 (by grind);grind
 ·have:=key (-v) w (by grind) hw (by grind) h4;grind
 ·have:=key (-v) (-w) (by grind) (by grind) (by grind) (by grind);grind
theorem Bd.mul {k:FloatKind} {x y A B:Nat} (hx:Bd k x A) (hy:Bd k y B) (h:A * B≤2 * k.format.binade):Bd k (AM k x y) (A * B):=by
 obtain ⟨v,h1,h2,h3⟩:=hx
 obtain ⟨w,h4,h5,h6⟩:=hy
 have e:=Rat.natCast_mul A B
 have hA:(0:Rat)≤(A:Rat):=by exact_mod_cast Nat.zero_le A
 have hB:(0:Rat)≤(B:Rat):=by exact_mod_cast Nat.zero_le B
 obtain ⟨g2,g1⟩:=TI hA hB h2 h3 h5 h6
 rw[← e] at g1 g2
 obtain ⟨R,q1,q2⟩:=FW h1 h4 (GI k h) (Ie k h) g1 g2
 exact ⟨R,q1,q2.bd h g1 g2⟩
theorem Bd.div {k:FloatKind} {x y A:Nat} {w:Rat} (hx:Bd k x A) (hy:CI k y w) (hw:1≤w) (h:A≤2 * k.format.binade):Bd k (fdiv k x y) A:=by
 obtain ⟨v,h1,h2,h3⟩:=hx
 have hA:(0:Rat)≤(A:Rat):=by exact_mod_cast Nat.zero_le A
 have hw0:w≠0:=by grind
 have hpos:0<w:=by grind
 have hq:v / w * w=v:=Rat.div_mul_cancel hw0
 have hAw:(A:Rat) * 1≤(A:Rat) * w:=Rat.mul_le_mul_of_nonneg_left hw hA
 have g1:v / w≤(A:Rat):=by
  refine Rat.not_lt.1 fun h => ?_
  have:=(Rat.mul_lt_mul_right hpos).2 h
  grind
 have g2 : -(A:Rat)≤v / w:=by
  refine Rat.not_lt.1 fun h => ?_
  have:=(Rat.mul_lt_mul_right hpos).2 h
  grind
 obtain ⟨R,q1,q2⟩:=Lv h1 hy hw0 (GI k h) (Ie k h) g1 g2
 exact ⟨R,q1,q2.bd h g1 g2⟩
theorem Bd.mono {k:FloatKind} {x A B:Nat} (h:Bd k x A) (hAB:A≤B):Bd k x B:=by
 obtain ⟨v,h1,h2,h3⟩:=h
 have:(A:Rat)≤(B:Rat):=by exact_mod_cast hAB
 exact ⟨v,h1,by grind,by grind⟩
theorem Bd.int {k:FloatKind} {n:Int} {B:Nat} (h:n.natAbs≤B) (hB:B≤2 * k.format.binade):Bd k (k.nearest n) B:=by
 obtain ⟨h1,h2⟩:=SD (n:=n)
 have:((n.natAbs:Nat):Rat)≤(B:Rat):=by exact_mod_cast h
 exact ⟨_,Dg (by omega),by grind,by grind⟩
theorem Bd.toInt {x B:Nat} (h:Bd .f64 x B) (hB:B≤4611686018427387904):∃ n:Int,EE .f64 x .i64=some n∧n.natAbs≤B:=by
 obtain ⟨v,⟨s,m,i,e1,rfl,-⟩,h2,h3⟩:=h
 have hv:=Ap m i
 have hmv:mv m i≤(B:Rat):=by cases s <;>simp only[Cj,A5] at h2 h3 <;>grind
 have hc:(m <<< i.toNat) / 2 ^ (-i).toNat≤B:=by
  refine Nat.div_le_of_le_mul ?_
  rw[Nat.shiftLeft_eq]
  have h4:mv (m * 2 ^ i.toNat) (-((-i).toNat:Int))≤mv (2 ^ (-i).toNat * B) (-((-i).toNat:Int)):=by
   rw[Nat.mul_comm (2 ^ (-i).toNat),Bo,Bo]
   rw[show -((-i).toNat:Int)+(i.toNat:Int)=i by omega,show -((-i).toNat:Int)+((-i).toNat:Int)=0 by omega]
   have e0:mv B 0=(B:Rat):=by unfold mv;rw[Cp,Rat.mul_one]
   rw[e0];exact hmv
  exact C4.1 h4
 refine ⟨Ieee.signed s ((m <<< i.toNat) / 2 ^ (-i).toNat) 0,?_,?_⟩
 ·unfold EE
  rw[e1]
  simp only[Ieee.Datum.toInt,Ieee.Datum.integral,Ls]
  have h5:IntKind.i64.min≤Ieee.signed s ((m <<< i.toNat) / 2 ^ (-i).toNat) 0∧Ieee.signed s ((m <<< i.toNat) / 2 ^ (-i).toNat) 0≤IntKind.i64.max:=by
   have e1:IntKind.i64.min = -9223372036854775808:=by decide
   have e2:IntKind.i64.max=9223372036854775807:=by decide
   rw[e1,e2]
   generalize (m <<< i.toNat) / 2 ^ (-i).toNat=c at *
   unfold Ieee.signed
   simp only[Nat.shiftLeft_zero]
   split <;>omega
  rw[if_pos h5]
 ·generalize (m <<< i.toNat) / 2 ^ (-i).toNat=c at *
  unfold Ieee.signed
  simp only[Nat.shiftLeft_zero]
  split <;>omega
theorem Bd.even {x B:Nat} (h:Bd .f64 x B) (hB:B≤2 * FloatKind.f64.format.binade):Bd .f64 (Bw .even x) B:=by
 obtain ⟨v,⟨s,m,i,e1,rfl,-⟩,h2,h3⟩:=h
 have hv:=Ap m i
 have hmv:mv m i≤(B:Rat):=by cases s <;>simp only[Cj,A5] at h2 h3 <;>grind
 have hn:m <<< i.toNat≤B * 2 ^ (-i).toNat:=by
  rw[Nat.shiftLeft_eq]
  have h4:mv (m * 2 ^ i.toNat) (-((-i).toNat:Int))≤mv (B * 2 ^ (-i).toNat) (-((-i).toNat:Int)):=by
   rw[Bo,Bo]
   rw[show -((-i).toNat:Int)+(i.toNat:Int)=i by omega,show -((-i).toNat:Int)+((-i).toNat:Int)=0 by omega]
   have e0:mv B 0=(B:Rat):=by unfold mv;rw[Cp,Rat.mul_one]
   rw[e0];exact hmv
  exact C4.1 h4
 have hc:=(PF s (m <<< i.toNat) (-i).toNat B).1 hn
 have e2:Bw .even x=FloatKind.f64.encode (.number s (Ieee.Toward.cut .even s (m <<< i.toNat) (-i).toNat) 0):=by
  unfold Bw;rw[e1];rfl
 rw[e2]
 generalize Ieee.Toward.cut .even s (m <<< i.toNat) (-i).toNat=c at *
 have hcb:c≤2 * FloatKind.f64.format.binade:=by omega
 have e3:mv c 0=(c:Rat):=by unfold mv;rw[Cp,Rat.mul_one]
 have e4:(c:Rat)≤(B:Rat):=by exact_mod_cast hc
 have e5:(0:Rat)≤(c:Rat):=by exact_mod_cast Nat.zero_le c
 obtain ⟨m',e',q1,q2⟩:=JV .f64 s (m:=c) (e:=0) (by rw[e3];exact GI .f64 hcb) (by rw[e3];exact Ie .f64 hcb)
 refine ⟨_,BL q1,?_,?_⟩ <;>rw[q2,e3] <;>cases s <;>simp only[Cj,A5] <;>grind
theorem IY {x:Nat} (h:CO x=true):CI .f32 x (fval .f32 x):=by
 obtain ⟨s,m,e,hd⟩:=T7 h
 have:=BL hd
 unfold fval;rw[hd];exact this
theorem CI.fval {k:FloatKind} {x:Nat} {v:Rat} (h:CI k x v):Go.Desk.fval k x=v:=by
 obtain ⟨s,m,e,h1,h2,-⟩:=h
 unfold Go.Desk.fval;rw[h1];exact h2.symm
theorem CI.fin {x:Nat} {v:Rat} (h:CI .f32 x v):CO x=true:=by
 obtain ⟨s,m,e,h1,-⟩:=h
 have:=(EC h1).1
 unfold CO
 exact decide_eq_true this
theorem Yh:CI .f32 2147483648 0:=by
 have:=BL (k:=.f32) (x:=2147483648) (s:=true) (m:=0) (e:=-149) (by decide)
 rwa [Cd,Cj,Rat.neg_zero] at this
theorem Z7 {x:Nat} {v:Rat} (hx:BX x) (h:CI .f32 x v):(0≤v→CI .f32 (BF x) v)∧(v≤0→CI .f32 (BF x) (-v)):=by
 have hn:=h.num
 obtain ⟨s,m,e,h1,rfl,h2,h3⟩:=h
 have hs:BF x=x % 2147483648:=by unfold BF;rw[hn];rfl
 have h4:FloatKind.f32.decode (BF x) = .number false m e:=by rw[hs];exact Ei.1 s m e h1
 have h5:=BL h4
 have hnn:=Ap m e
 rw[A5] at h5
 constructor
 ·intro h
  cases s <;>simp only[Cj,A5] at h ⊢
  ·exact h5
  ·have:mv m e=0:=by grind
   rw[this] at h5 ⊢;simpa using h5
 ·intro h
  cases s <;>simp only[Cj,A5] at h ⊢
  ·have:mv m e=0:=by grind
   rw[this] at h5 ⊢;simpa using h5
  ·rw[Rat.neg_neg];exact h5
def Ju (x:Nat):Bool:=CO x&&(x % 2147483648==0||(decide (1031798784≤x % 2147483648)&&decide (x % 2147483648≤1091829760)))
theorem XS:∀ m:Nat,m<129→(Ju (fdiv .f32 (FloatKind.f32.nearest ((m:Int) - 64)) 1088421888)&&Ju (fdiv .f32 (FloatKind.f32.nearest ((m:Int) - 64)) 1098907648))=true:=by decide +kernel
theorem Lo.ok {x:Nat} (h:Lo x):Ju x=true:=by
 obtain ⟨m,hm,h⟩:=h
 obtain ⟨k,hk⟩:=Int.eq_ofNat_of_zero_le (show 0≤m+64 by omega)
 have hm':m=(k:Int) - 64:=by omega
 have:=XS k (by omega)
 rw[← hm',zB] at this
 rcases h with rfl | rfl
 ·exact this.1
 ·exact this.2
theorem Lo.fin {x:Nat} (h:Lo x):CO x=true:=by
 have:=h.ok
 unfold Ju at this
 rw[zB] at this
 exact this.1
theorem Xl (x:Nat) (s:Bool) (m:Nat) (e:Int) (h:FloatKind.f32.decode x = .number s m e):CI .f32 x (sg s (mv m e)):=BL h
theorem Lo.val {x:Nat} (h:Lo x):∃ v,CI .f32 (BF x) v∧(v=0∨1 / 16≤v)∧0≤v∧v≤10∧(fval .f32 x=v∨fval .f32 x = -v):=by
 have hf:=h.fin
 have hok:=h.ok
 have hw:=h.w32
 have hv:=IY hf
 obtain ⟨s1,s2⟩:=Z7 hw hv
 have hn:=Wx hf
 have hs:BF x=x % 2147483648:=by unfold BF;rw[hn];rfl
 have hex:∃ v,CI .f32 (BF x) v∧0≤v∧(fval .f32 x=v∨fval .f32 x = -v):=by
  rcases (Rat.le_total:(0:Rat)≤fval .f32 x∨fval .f32 x≤0) with h1 | h1
  ·exact ⟨_,s1 h1,h1,.inl rfl⟩
  ·exact ⟨_,s2 h1,by grind,.inr (by grind)⟩
 obtain ⟨v,q1,q2,q3⟩:=hex
 refine ⟨v,q1,?_,q2,?_,q3⟩
 ·unfold Ju at hok
  simp only[zB,Bool.or_eq_true,beq_iff_eq,decide_eq_true_eq] at hok
  rcases hok.2 with h0 | ⟨h1,-⟩
  ·rw[← hs] at h0
   rw[h0] at q1
   exact .inl (q1.inj (Hs .f32))
  ·refine .inr ?_
   have hc:CI .f32 1031798784 (1 / 16):=by
    have:=Xl 1031798784 false (2 ^ 23) (-27) (by decide)
    rw[A5,CR] at this
    have e:p2 (-27+((23:Nat):Int)) * 16=1:=by
     have h4:=Hf (-27+((23:Nat):Int)) 4
     have h16:p2 4=16:=by have:=LH 4;rw[show ((4:Nat):Int)=4 from rfl] at this;rw[this];rfl
     rw[h16] at h4;rw[← h4,show (-27:Int)+((23:Nat):Int)+4=0 by decide,Cp]
    have e2:p2 (-27+((23:Nat):Int))=1 / 16:=by grind
    rw[e2] at this;exact this
   have:=(LO q1 hc).1 (by
    rw[bh];unfold I1
    rw[q1.num,hc.num,NX (by omega),NX (by omega),if_pos (by omega),if_pos (by omega)]
    simp;omega)
   exact this
 ·unfold Ju at hok
  simp only[zB,Bool.or_eq_true,beq_iff_eq,decide_eq_true_eq] at hok
  have hle:x % 2147483648≤1091829760:=by rcases hok.2 with h0 | ⟨-,h1⟩ <;>omega
  have hc:CI .f32 1092616192 10:=by
   have:=Dg (k:=.f32) (n:=10) (by decide)
   rwa [show FloatKind.f32.nearest 10=1092616192 by decide] at this
  refine (SR q1 hc).1 ?_
  rw[cd];unfold I1
  rw[q1.num,hc.num,NX (by omega),NX (by omega),if_pos (by omega),if_pos (by omega)]
  simp;omega
def HB (at_ re:Nat) (l x:Nat):Nat:=Hb (Au .f32 l (AM .f32 (if F4 .f32 (BF x) l then at_ else re) (BW .f32 (BF x) l)))
theorem YP (a r l x:Nat):BX (HB a r l x):=Mg (BV _ _)
def OT (l t r:Nat):Nat:=if F4 .f32 l t then fdiv .f32 (Au .f32 t (fdiv .f32 (BW .f32 l t) r)) l else 1065353216
def Bb (a r t q:Nat) (l:Nat) (x:Nat × Nat):Nat × Nat:=(AM .f32 x.1 (OT (HB a r l x.2) t q),HB a r l x.2)
theorem U4:2 * FloatKind.f32.format.binade=16777216:=by decide
def XB (w:List Nat):Nat:=w.getD 0 0
def EO (w:List Nat):Prop:=∀ y∈w,BX y
theorem YQ {w:List Nat} {x:Nat} (h:EO w) (hx:BX x):EO (NN w x):=by
 intro y hy
 simp only[NN,mem_append,mem_singleton] at hy
 rcases hy with hy | rfl
 ·exact h y (mem_of_mem_drop hy)
 ·exact hx
theorem KN {x:Nat} (hx:x<4294967296) (h:CI .f32 x 0):x=0∨x=2147483648:=by
 obtain ⟨s,m,e,h1,h2,-⟩:=h
 have h3:mv m e=0:=by cases s <;>simp only[Cj,A5] at h2 <;>grind
 have h4:=(Hv h1).2 h3
 have h5:x % 2147483648=0:=h4
 omega
theorem dA {a b:Int} (ha:a.natAbs≤16777216) (hb:b.natAbs≤16777216) (hab:(a * b).natAbs≤16777216) (h0:a * b≠0):AM .f32 (FloatKind.f32.nearest a) (FloatKind.f32.nearest b)=FloatKind.f32.nearest (a * b):=by
 have b32:2 * FloatKind.f32.format.binade=16777216:=U4
 have va:=Dg (k:=.f32) (n:=a) (by rw[b32];exact ha)
 have vb:=Dg (k:=.f32) (n:=b) (by rw[b32];exact hb)
 have hab':(a * b).natAbs≤2 * FloatKind.f32.format.binade:=by rw[b32];exact hab
 have hv:(a:Rat) * (b:Rat)=((a * b:Int):Rat):=(Rat.intCast_mul _ _).symm
 obtain ⟨h1,h2⟩:=SD (n:=a * b)
 obtain ⟨R,h3,h4⟩:=FW va vb (GI .f32 hab') (Ie .f32 hab') (by rw[hv];exact h1) (by rw[hv];exact h2)
 rw[hv] at h4
 have h5:=h3.near_eq h4 (XF hab')
 exact Fr (Wv _ _ _) (Pl _ _) h5 (Dg hab') (by exact_mod_cast h0)
theorem Tw:FloatKind.f32.nearest 1=1065353216:=by decide
theorem one_mul {a:Int} (h : -1000000≤a∧a≤1000000):AM .f32 1065353216 (FloatKind.f32.nearest a)=FloatKind.f32.nearest a:=by
 by_cases h0:a=0
 ·subst h0;decide
 ·have:=dA (a:=1) (b:=a) (by decide) (by omega) (by omega) (by omega)
  rw[Tw,Int.one_mul] at this
  exact this
theorem Qx {a:Int} (h : -1000000≤a∧a≤1000000):a.natAbs≤2 * FloatKind.f32.format.binade:=by
 rw[show 2 * FloatKind.f32.format.binade=16777216 from U4];omega
theorem add_zero {a:Int} (h : -1000000≤a∧a≤1000000):Au .f32 (FloatKind.f32.nearest a) 0=FloatKind.f32.nearest a:=by
 have:=cW (k:=.f32) (a:=a) (b:=0) (Qx h) (by decide) (by simpa using Qx h)
 rw[IK] at this
 simpa using this
end Go.Desk
namespace Go.Desk
open Go
theorem WW {x m:Nat} (hx:x<4294967296) (hm:m<4294967296):intBits BinOp.and .i64 (x:Int) (m:Int)=((x &&& m:Nat):Int):=by
 have e1:∀ y:Nat,BitVec.ofInt 64 (y:Int)=BitVec.ofNat 64 y:=fun y=>by
  apply BitVec.eq_of_toNat_eq
  simp
 have h2:(BitVec.ofInt 64 (x:Int) &&& BitVec.ofInt 64 (m:Int)).toNat=x &&& m:=by
  rw[e1,e1,BitVec.toNat_and,BitVec.toNat_ofNat,BitVec.toNat_ofNat,Nat.mod_eq_of_lt (show x<2 ^ 64 by omega),Nat.mod_eq_of_lt (show m<2 ^ 64 by omega)]
 have h3:x &&& m≤x:=Nat.and_le_left
 show IntKind.i64.wrap (((BitVec.ofInt 64 (x:Int) &&& BitVec.ofInt 64 (m:Int)).toNat:Nat):Int)=_
 rw[h2,BD] <;>omega
theorem Tx (x c w:Nat):x &&& ((2 ^ w - 1) * 2 ^ c)=x / 2 ^ c % 2 ^ w * 2 ^ c:=by
 have e2:x / 2 ^ c % 2 ^ w * 2 ^ c=((x >>> c) % 2 ^ w) <<< c:=by rw[Nat.shiftRight_eq_div_pow,Nat.shiftLeft_eq]
 rw[e2,← Nat.shiftLeft_eq]
 apply Nat.eq_of_testBit_eq
 intro i
 rw[Nat.testBit_and,Nat.testBit_shiftLeft,Nat.testBit_shiftLeft,Nat.testBit_mod_two_pow,Nat.testBit_shiftRight,Nat.testBit_two_pow_sub_one]
 by_cases h:i≥c
 ·rw[show c+(i - c)=i by omega]
  cases x.testBit i <;>simp
 ·simp[h]
theorem Y4 (x:Nat) (hx:x<4294967296):(intBits BinOp.and .i64 (x:Int) 2139095040==0)=decide (x % 2147483648<8388608):=by
 have h1:=WW (m:=2139095040) hx (by omega)
 have h2:=Tx x 23 8
 have h1:intBits BinOp.and .i64 (x:Int) 2139095040=((x &&& 2139095040:Nat):Int):=h1
 have h2:x &&& 2139095040=x / 8388608 % 256 * 8388608:=h2
 rw[h1,h2,Bool.eq_iff_iff]
 simp only[beq_iff_eq,decide_eq_true_eq]
 omega
theorem Xq (x:Nat) (hx:x<4294967296):intBits BinOp.and .i64 (x:Int) 2147483648=((x / 2147483648 * 2147483648:Nat):Int):=by
 have h1:=WW (m:=2147483648) hx (by omega)
 have h2:=Tx x 31 1
 have h1:intBits BinOp.and .i64 (x:Int) 2147483648=((x &&& 2147483648:Nat):Int):=h1
 have h2:x &&& 2147483648=x / 2147483648 % 2 * 2147483648:=h2
 have h3:x / 2147483648 % 2=x / 2147483648:=by omega
 rw[h1,h2,h3]
end Go.Desk
end
section
namespace Go.Proofs.YtdobhipbgpiceaaGreat.DA
open Go Go.Desk
def AC (f:Func):Code:=match f.body with
 | some c=>c
 | none => .skip
def Ni:List (Nat × TD):=[
 (69,⟨false,1,8,[.leaf],[.flt .f64 0],.flt .f64⟩),
 (124,⟨false,1,8,[.leaf],[.int .u64 0],.int .u64⟩)]
noncomputable def fq:Code:=AC Tryz.f170
noncomputable def Fd:List (Nat × FD):=[
 (169,.ext (Br)),
 (170,.code fq [.val] [] [(2,none)] [(0,[0]),(1,[0])]),
 (174,.ext (Do))]
noncomputable def E:A4:=⟨fun t=>NJ Ni t,H7 Fd⟩
noncomputable def El (n:Nat):FD:=match H7 Fd n with
 | some d=>d
 | none => .ext fun _=>none
noncomputable def GA (n:Nat):List (Nat × List Nat):=match H7 Fd n with
 | some d=>d.keep
 | none=>[]
theorem tysOk:DO Tryz.prog E:=Pq (l:=Ni) (fun _=>rfl) (by kernel_rfl)
theorem T2:Cm Tryz.prog E 169 (.ext (Br)):=FO Tryz.func169 (by kernel_rfl) (by kernel_rfl) (by kernel_rfl) (by kernel_rfl)
theorem aQ:Cm Tryz.prog E 170 (El 170):=LC (c:=fq) (modes:=(El 170).ms) (outs:=(El 170).os) (results:=(El 170).rs) (keep:=(El 170).keep) Tryz.func170 (by kernel_rfl) (by kernel_rfl) (by kernel_rfl)
theorem Uz:Cm Tryz.prog E 174 (.ext (Do)):=IR Tryz.func174 (by kernel_rfl) (by kernel_rfl) (by kernel_rfl) (by kernel_rfl)
theorem Pi:Ks Tryz.prog E Fd:=.cons T2 (.cons aQ (.cons Uz (.nil)))
theorem fnOk:∀ f fd,E.fn f=some fd→Cm Tryz.prog E f fd:=PU (l:=Fd) (fun _=>rfl) Pi
end Go.Proofs.YtdobhipbgpiceaaGreat.DA
section
namespace Go.Proofs.YtdobhipbgpiceaaGreat.DA
open Go Go.Desk
set_option linter.unusedVariables false
noncomputable def x169.w:A7 E:=Av.w 169 (by kernel_rfl)
noncomputable def x174.w:A7 E:=Bu.w 174 (by kernel_rfl)
def f170:Nat→Nat→Option (Nat)
 | 0,_=>none
 | n+1,x1 =>
   bd (Bu n x1) fun r2 =>
   let i3:Int:=r2
   bd (Av n (intBits BinOp.andNot IntKind.u64 i3 (9223372036854775808:Int))) fun r4 =>
   let x5:Nat:=r4
   some x5
def BE:By (Nat) where
 pk:=fun v=>[.flt v]
 up:=fun ls=>match ls with
  | [.flt a0]=>some a0
  | _=>none
 ok:=by
  intro ls v h
  split at h
  ·cases h;rfl
  ·cases h
def f170.P:List Ae:=[⟨.val,⟨false,[.leaf],[.flt .f64 0]⟩⟩]
def f170.A:Aa (Nat):=.one ⟨[⟨false,[.leaf],[.flt .f64 0]⟩],[none]⟩ BE
def f170.F (n:Nat) (v:Nat):=f170 n v
noncomputable def f170.O (n:Nat):BJ:=AK (E:=E) [x169.w,x174.w] [] n
theorem f170.ok:∀ n v x,f170.F n v=some x→Ak E n 170 (Hk f170.P (BE.pk v))=some (f170.A.enc x) :=
 SY (modes:=(El 170).ms) (outs:=(El 170).os) (results:=(El 170).rs) f170.O (c:=fq) (keep:=GA 170) (by kernel_rfl) (fun n=>Ld _ _ n) (fun n=>OH (bs:=[]) (by kernel_rfl) .nil) (fun _=>rfl) (fun _ _=>by kernel_rfl)
noncomputable def f170.w:A7 E:=BQ 170 f170.P BE f170.A f170.F f170.ok
end Go.Proofs.YtdobhipbgpiceaaGreat.DA
end
namespace Go.Proofs.YtdobhipbgpiceaaGreat.DA
open Go Go.Desk
theorem absOk:IC Tryz.prog 170 VG:=Tu Tryz.checked.mixed tysOk fnOk
 (fun x hN hx=>⟨3,f170.ok 3 x _ (YU 1 hN)⟩)
 ⟨5,by kernel_rfl⟩
end Go.Proofs.YtdobhipbgpiceaaGreat.DA
end
section
namespace Go.Proofs.YtdobhipbgpiceaaGreat.DC
open Go Go.Desk
def AC (f:Func):Code:=match f.body with
 | some c=>c
 | none => .skip
def Ni:List (Nat × TD):=[
 (69,⟨false,1,8,[.leaf],[.flt .f64 0],.flt .f64⟩),
 (124,⟨false,1,8,[.leaf],[.int .u64 0],.int .u64⟩)]
noncomputable def ge:Code:=AC Tryz.f161
noncomputable def Fd:List (Nat × FD):=[
 (161,.code ge [.val,.val] [] [(4,none)] [(0,[0,1]),(1,[0,1])]),
 (169,.ext (Br)),
 (174,.ext (Do))]
noncomputable def E:A4:=⟨fun t=>NJ Ni t,H7 Fd⟩
noncomputable def El (n:Nat):FD:=match H7 Fd n with
 | some d=>d
 | none => .ext fun _=>none
noncomputable def GA (n:Nat):List (Nat × List Nat):=match H7 Fd n with
 | some d=>d.keep
 | none=>[]
theorem tysOk:DO Tryz.prog E:=Pq (l:=Ni) (fun _=>rfl) (by kernel_rfl)
theorem aO:Cm Tryz.prog E 161 (El 161):=LC (c:=ge) (modes:=(El 161).ms) (outs:=(El 161).os) (results:=(El 161).rs) (keep:=(El 161).keep) Tryz.func161 (by kernel_rfl) (by kernel_rfl) (by kernel_rfl)
theorem T2:Cm Tryz.prog E 169 (.ext (Br)):=FO Tryz.func169 (by kernel_rfl) (by kernel_rfl) (by kernel_rfl) (by kernel_rfl)
theorem Uz:Cm Tryz.prog E 174 (.ext (Do)):=IR Tryz.func174 (by kernel_rfl) (by kernel_rfl) (by kernel_rfl) (by kernel_rfl)
theorem Pi:Ks Tryz.prog E Fd:=.cons aO (.cons T2 (.cons Uz (.nil)))
theorem fnOk:∀ f fd,E.fn f=some fd→Cm Tryz.prog E f fd:=PU (l:=Fd) (fun _=>rfl) Pi
end Go.Proofs.YtdobhipbgpiceaaGreat.DC
section
namespace Go.Proofs.YtdobhipbgpiceaaGreat.DC
open Go Go.Desk
set_option linter.unusedVariables false
noncomputable def x169.w:A7 E:=Av.w 169 (by kernel_rfl)
noncomputable def x174.w:A7 E:=Bu.w 174 (by kernel_rfl)
def f161:Nat→Nat→Nat→Option (Nat)
 | 0,_,_=>none
 | n+1,x1,x2 =>
   bd (Bu n x1) fun r3 =>
   let i4:Int:=r3
   bd (Bu n x2) fun r5 =>
   let i6:Int:=r5
   bd (Av n (intBits BinOp.or IntKind.u64 (intBits BinOp.andNot IntKind.u64 i4 (9223372036854775808:Int)) (intBits BinOp.and IntKind.u64 i6 (9223372036854775808:Int)))) fun r7 =>
   let x8:Nat:=r7
   some x8
def I8:By (Nat × Nat) where
 pk:=fun v=>[.flt v.1,.flt v.2]
 up:=fun ls=>match ls with
  | [.flt a0,.flt a1]=>some (a0,a1)
  | _=>none
 ok:=by
  intro ls v h
  split at h
  ·cases h;rfl
  ·cases h
def BE:By (Nat) where
 pk:=fun v=>[.flt v]
 up:=fun ls=>match ls with
  | [.flt a0]=>some a0
  | _=>none
 ok:=by
  intro ls v h
  split at h
  ·cases h;rfl
  ·cases h
def f161.P:List Ae:=[⟨.val,⟨false,[.leaf],[.flt .f64 0]⟩⟩,⟨.val,⟨false,[.leaf],[.flt .f64 0]⟩⟩]
def f161.A:Aa (Nat):=.one ⟨[⟨false,[.leaf],[.flt .f64 0]⟩],[none,none]⟩ BE
def f161.F (n:Nat) (v:Nat × Nat):=f161 n v.1 v.2
noncomputable def f161.O (n:Nat):BJ:=AK (E:=E) [x169.w,x174.w] [] n
theorem f161.ok:∀ n v x,f161.F n v=some x→Ak E n 161 (Hk f161.P (I8.pk v))=some (f161.A.enc x) :=
 SY (modes:=(El 161).ms) (outs:=(El 161).os) (results:=(El 161).rs) f161.O (c:=ge) (keep:=GA 161) (by kernel_rfl) (fun n=>Ld _ _ n) (fun n=>OH (bs:=[]) (by kernel_rfl) .nil) (fun _=>rfl) (fun _ _=>by kernel_rfl)
noncomputable def f161.w:A7 E:=BQ 161 f161.P I8 f161.A f161.F f161.ok
end Go.Proofs.YtdobhipbgpiceaaGreat.DC
end
namespace Go.Proofs.YtdobhipbgpiceaaGreat.DC
open Go Go.Desk
theorem signOk:IC Tryz.prog 161 EV:=My Tryz.checked.mixed tysOk fnOk
 (fun x s hx hs hx' hs'=>⟨3,f161.ok 3 (x,s) _ (PM 1 hx hs hx' hs')⟩)
end Go.Proofs.YtdobhipbgpiceaaGreat.DC
end
section
namespace Go.Proofs.YtdobhipbgpiceaaGreat.DS
open Go Go.Desk Go.Shelf Go.RowKit Go.Lib Go.Sort
set_option linter.unusedVariables false
theorem JX {P:Program} (w:World) (t e ty:TypeId) (z:Value) (ht:P.underlying t=some (.slice e)) (hv:∀ w,(zeroValue e).run P w = .ok z w) (b o n c:Nat) (hn:0<n)
  (h1:∀ u∈(Builtin.zeroCells z.cells n).toList,u.oneCell'=true)
  (hc:∀ j,j<(Builtin.zeroCells z.cells n).toList.length→(w.cell? ⟨b,o+j,none⟩).isSome=true) (hf:∀ j,j<(Builtin.zeroCells z.cells n).toList.length→w.frozen? ⟨b,o+j,none⟩=false) :
  (Builtin.clear_ #[t] ty #[.slice (some ⟨b,o,none⟩) n c]).run P w = .ok (.tuple #[]) (w.setCells b o (Builtin.zeroCells z.cells n).toList):=by
 have hst:=run_storeCells_cells (P:=P) b o (Builtin.zeroCells z.cells n).toList 0 w (by simpa using hc) (by simpa using hf) h1
 simp only[Nat.add_zero] at hst
 obtain ⟨m,rfl⟩:∃ m,n=m+1:=⟨n - 1,by omega⟩
 simp[Builtin.clear_,run_underlying ht,hv,hst]
theorem Hj:∀ (vs:List Value) (w:World) (b o:Nat),w.setCells b o vs=Kt w b o vs
 | [],_,_,_=>rfl
 | v::vs,w,b,o=>Hj vs (w.setCell ⟨b,o,none⟩ v) b (o+1)
theorem KR (c:Array Value) (k W:Nat) (h:c.size=W):(Builtin.zeroCells c k).toList.length=k * W:=by simp[Builtin.zeroCells,h]
theorem Ke (c:Array Value) (k:Nat) (h:∀ v∈c.toList,v.oneCell'=true):∀ u∈(Builtin.zeroCells c k).toList,u.oneCell'=true:=by
 intro u hu
 simp only[Builtin.zeroCells,Array.toList_map,mem_map] at hu
 obtain ⟨i,hi,rfl⟩:=hu
 have hi:i<k * c.size:=by simpa using hi
 have hs:0<c.size:=by
  rcases Nat.eq_zero_or_pos c.size with h0 | h0
  ·rw[h0] at hi;omega
  ·exact h0
 have hm:i % c.size<c.size:=Nat.mod_lt _ hs
 refine h _ ?_
 rw[getElem!_pos c (i % c.size) hm]
 exact Array.getElem_mem_toList hm
theorem row3 {vs:List Value} {n i:Nat} (hl:vs.length=n * 3) (hi:i<n):∃ u0 u1 u2,(vs.drop (i * 3)).take 3=[u0,u1,u2]∧vs[i * 3]?=some u0∧vs[i * 3+1]?=some u1∧vs[i * 3+2]?=some u2:=by
 have h0:i * 3+2<vs.length:=by omega
 refine ⟨vs[i * 3],vs[i * 3+1],vs[i * 3+2],?_,by simp,by simp,by simp⟩
 rw[drop_eq_getElem_cons (by omega),take_succ_cons,drop_eq_getElem_cons (by omega),take_succ_cons,drop_eq_getElem_cons (by omega),take_succ_cons,take_zero]
theorem BU {w w':World} {W:Nat→Nat→Prop} (hx:Aw w w' W) {b t:Nat} (hn:¬ W b t) {u:Value} (h:w.cell? ⟨b,t,none⟩=some u):w'.cell? ⟨b,t,none⟩=some u:=by
 cases hb:w.heap[b]? with
 | none=>simp[World.cell?,hb] at h
 | some o =>
   cases o with
   | cells row e fr =>
     rw[DL hb] at h
     obtain ⟨row',h1,h2,h3⟩:=hx.cells b row e fr hb
     rw[DL h1,h3 t hn];exact h
   | _=>simp[World.cell?,hb] at h
theorem Ch {w w':World} {W:Nat→Nat→Prop} (hx:Aw w w' W) {b t:Nat} (h:(w.cell? ⟨b,t,none⟩).isSome=true) (hf:w.frozen? ⟨b,t,none⟩=false):(w'.cell? ⟨b,t,none⟩).isSome=true∧w'.frozen? ⟨b,t,none⟩=false:=by
 cases hb:w.heap[b]? with
 | none=>simp[World.cell?,hb] at h
 | some o =>
   cases o with
   | cells row e fr =>
     rw[DL hb] at h
     obtain ⟨row',h1,h2,h3⟩:=hx.cells b row e fr hb
     rw[J7 hb] at hf
     rw[DL h1,J7 h1]
     refine ⟨?_,hf⟩
     obtain ⟨u,hu⟩:=Option.isSome_iff_exists.1 h
     have:t<row'.size:=by rw[h2];exact (Array.getElem?_eq_some_iff.1 hu).1
     simp[this]
   | _=>simp[World.cell?,hb] at h
abbrev Hn:Nat→Nat→Prop:=fun _ _=>False
def Qb:List Bool→Nat→Int
 | [],_ => -1
 | true::_,i=>(i:Int)
 | false::bs,i=>Qb bs (i+1)
theorem MG:∀ (bs:List Bool) (i k:Nat),bs[k]?=some true→(∀ j,j<k→bs[j]?=some false)→Qb bs i=((i+k:Nat):Int)
 | [],_,_,h,_=>by simp at h
 | true::bs,i,0,_,_=>rfl
 | true::bs,i,k+1,_,h=>by have:=h 0 (by omega);simp at this
 | false::bs,i,0,h,_=>by simp at h
 | false::bs,i,k+1,h,hj=>by
   show Qb bs (i+1)=_
   rw[MG bs (i+1) k (by simpa using h) (fun j hjk=>by have:=hj (j+1) (by omega);simpa using this)]
   congr 1;omega
theorem JD:∀ (bs:List Bool) (i:Nat),(∀ j,j<bs.length→bs[j]?=some false)→Qb bs i = -1
 | [],_,_=>rfl
 | true::bs,i,h=>by have:=h 0 (by simp);simp at this
 | false::bs,i,h=>JD bs (i+1) (fun j hj=>by have:=h (j+1) (by simp;omega);simpa using this)
theorem I5 {α:Type} {W:Nat}:∀ (ps bs:List Bool) (xs:List α),CH W (ps++bs) xs=CH W ps xs++CH W bs (xs.drop (ps.length * W))
 | [],bs,xs=>by simp[CH]
 | true  ::ps,bs,xs=>by
   show CH W (ps++bs) (xs.drop W)=CH W ps (xs.drop W)++_
   rw[I5 ps bs,drop_drop,length_cons,Nat.succ_mul,Nat.add_comm]
 | false  ::ps,bs,xs=>by
   show xs.take W++CH W (ps++bs) (xs.drop W)=(xs.take W++CH W ps (xs.drop W))++_
   rw[I5 ps bs,drop_drop,length_cons,Nat.succ_mul,Nat.add_comm,append_assoc]
theorem I0:∀ (ps bs:List Bool),CT (ps++bs)=CT ps+CT bs
 | [],bs=>by simp[CT]
 | true  ::ps,bs=>I0 ps bs
 | false  ::ps,bs=>by show CT (ps++bs)+1=CT ps+1+CT bs;rw[I0 ps bs];omega
theorem OA {α:Type} {W:Nat}:∀ (bs:List Bool) (xs:List α),(∀ j,j<bs.length→bs[j]?=some false)→CH W bs xs=xs.take (bs.length * W)∧CT bs=bs.length
 | [],xs,_=>by simp[CH,CT]
 | true::bs,xs,h=>by have:=h 0 (by simp);simp at this
 | false::bs,xs,h=>by
   obtain ⟨h1,h2⟩:=OA bs (xs.drop W) (fun j hj=>by have:=h (j+1) (by simp;omega);simpa using this)
   refine ⟨?_,by show CT bs+1=_;rw[h2];rfl⟩
   show xs.take W++CH W bs (xs.drop W)=_
   rw[h1,length_cons,Nat.succ_mul,Nat.add_comm,List.take_add]
theorem Gb {bs:List Bool} {j:Nat} {c:Bool} (h:bs[j]?=some c):bs.take (j+1)=bs.take j++[c]:=by rw[List.take_add_one,h];rfl
structure F1 (w wr:World) (blk off n:Nat) (vs:List Value) (bs:List Bool) (i j:Nat):Prop where
 ij:i<j
 jn:j≤n
 ext:Aw w wr (fun b' t=>b'=blk∧off≤t∧t<off+n * 3)
 kept:i=CT (bs.take j)
 held:∃ xs:List Value,xs.length=n * 3∧(∀ t u,xs[t]?=some u→wr.cell? ⟨blk,off+t,none⟩=some u)∧xs.take (i * 3)=CH 3 (bs.take j) vs∧xs.drop (j * 3)=vs.drop (j * 3)
theorem F1.grow {w wr wr':World} {blk off n i j:Nat} {vs:List Value} {bs:List Bool} (h:F1 w wr blk off n vs bs i j) (hx:Aw wr wr' Hn):F1 w wr' blk off n vs bs i j:=by
 obtain ⟨a,b,c,d,xs,e,f,g,k⟩:=h
 exact ⟨a,b,c.trans hx (fun _ _ h=>h) (fun _ _ _ h=>h.elim),d,xs,e,fun t u hu=>BU hx (by simp[Hn]) (f t u hu),g,k⟩
theorem F1.skip {w wr:World} {blk off n i j:Nat} {vs:List Value} {bs:List Bool} (h:F1 w wr blk off n vs bs i j) (hj:j<n) (hb:bs[j]?=some true):F1 w wr blk off n vs bs i (j+1):=by
 obtain ⟨a,b,c,d,xs,e,f,g,k⟩:=h
 refine ⟨by omega,by omega,c,?_,xs,e,f,?_,?_⟩
 ·rw[Gb hb,I0,← d];rfl
 ·rw[Gb hb,I5,← g];simp[CH]
 ·rw[Nat.succ_mul,← drop_drop,k,drop_drop]
theorem F1.keep {w wr:World} {blk off n i j:Nat} {vs:List Value} {bs:List Bool} (h:F1 w wr blk off n vs bs i j) (hj:j<n) (hbl:bs.length=n) (hb:bs[j]?=some false) {u0 u1 u2:Value} (hrow:(vs.drop (j * 3)).take 3=[u0,u1,u2]):F1 w (((wr.setCell ⟨blk,off+i * 3,none⟩ u0).setCell ⟨blk,off+i * 3+1,none⟩ u1).setCell ⟨blk,off+i * 3+2,none⟩ u2) blk off n vs bs (i+1) (j+1):=by
 obtain ⟨a,b,c,d,xs,e,f,g,k⟩:=h
 have hW:((wr.setCell ⟨blk,off+i * 3,none⟩ u0).setCell ⟨blk,off+i * 3+1,none⟩ u1).setCell ⟨blk,off+i * 3+2,none⟩ u2=Kt wr blk (off+i * 3) [u0,u1,u2]:=rfl
 rw[hW]
 have hin:∀ t,t<n * 3→(wr.cell? ⟨blk,off+t,none⟩).isSome=true:=fun t h=>by
  rw[f t xs[t] (List.getElem?_eq_getElem (by omega))];rfl
 obtain ⟨row,ty,fr,hh⟩:∃ row ty fr,wr.heap[blk]?=some (.cells row ty fr):=by
  have:=hin 0 (by omega)
  cases hb:wr.heap[blk]? with
  | none=>simp[World.cell?,hb] at this
  | some o =>
    cases o with
    | cells row e fr=>exact ⟨row,e,fr,rfl⟩
    | _=>simp[World.cell?,hb] at this
 have hsz:off+n * 3≤row.size:=by
  have:=hin (n * 3 - 1) (by omega)
  rw[DL hh] at this
  obtain ⟨u,hu⟩:=Option.isSome_iff_exists.1 this
  have:=(Array.getElem?_eq_some_iff.1 hu).1
  omega
 obtain ⟨row1,a1,a2,a3,a4⟩:=IH [u0,u1,u2] wr blk (off+i * 3) row ty fr hh (by simp;omega)
 have x1:=H9 [u0,u1,u2] wr blk (off+i * 3)
 refine ⟨by omega,by omega,c.trans x1 (fun _ _ h=>h) (fun b' t _ h=>⟨h.1,by have:=h.2.1;omega,by have h2:=h.2.2;simp at h2;omega⟩),?_,xs.take (i * 3)++([u0,u1,u2]++xs.drop (i * 3+3)),?_,?_,?_,?_⟩
 ·rw[Gb hb,I0,← d];rfl
 ·simp[e];omega
 ·intro t u hu
  rw[DL a1]
  by_cases ht1:t<i * 3
  ·rw[List.getElem?_append_left (by simp;omega),List.getElem?_take_of_lt ht1] at hu
   rw[a4 _ (by omega),← DL hh]
   exact f t u hu
  ·by_cases ht2:t<i * 3+3
   ·rw[List.getElem?_append_right (by simp;omega),List.getElem?_append_left (by simp;omega)] at hu
    have hm:min (i * 3) xs.length=i * 3:=by omega
    simp only[length_take,hm] at hu
    rw[← a3,seg_getElem?] at hu
    rw[if_pos (by simp;omega),show off+i * 3+(t - i * 3)=off+t by omega] at hu
    exact hu
   ·rw[List.getElem?_append_right (by simp;omega),List.getElem?_append_right (by simp;omega),List.getElem?_drop] at hu
    have hm:min (i * 3) xs.length=i * 3:=by omega
    simp only[length_take,hm,length_cons,length_nil] at hu
    rw[a4 _ (by simp;omega),← DL hh]
    refine f t u ?_
    rw[← hu];congr 1;omega
 ·rw[Gb hb,I5,← g,Nat.succ_mul,← append_assoc,take_left' (by simp;omega)]
  have hbl2:(bs.take j).length=j:=by simp;omega
  show _=_++((vs.drop _).take 3++[])
  rw[hbl2,hrow,append_nil]
 ·have:(xs.take (i * 3)++([u0,u1,u2]++xs.drop (i * 3+3))).drop ((j+1) * 3)=xs.drop ((j+1) * 3):=by
   apply List.ext_getElem?
   intro t
   rw[List.getElem?_drop,List.getElem?_drop,List.getElem?_append_right (by simp;omega),List.getElem?_append_right (by simp;omega),List.getElem?_drop]
   have hm:min (i * 3) xs.length=i * 3:=by omega
   simp only[length_take,hm,length_cons,length_nil]
   congr 1;omega
  rw[this,Nat.succ_mul,← drop_drop,k,drop_drop]
theorem WB:∀ bs:List Bool,(∀ j,j<bs.length→bs[j]?=some false)∨∃ k:Nat,bs[k]?=some true∧∀ j:Nat,j<k→bs[j]?=some false
 | [] => .inl (by simp)
 | true::bs => .inr ⟨0,rfl,fun j h=>by omega⟩
 | false::bs=>by
   rcases WB bs with h | ⟨k,h1,h2⟩
   ·refine .inl fun j hj => ?_
    cases j with
    | zero=>rfl
    | succ j=>simpa using h j (by simpa using hj)
   ·refine .inr ⟨k+1,by simpa using h1,fun j hj => ?_⟩
    cases j with
    | zero=>rfl
    | succ j=>simpa using h2 j (by omega)
theorem F1.start {w wr:World} {blk off n k:Nat} {vs:List Value} {bs:List Bool} (hx:Aw w wr Hn) (hl:vs.length=n * 3) (hb:bs.length=n) (hc:∀ t u,vs[t]?=some u→w.cell? ⟨blk,off+t,none⟩=some u) (hk:bs[k]?=some true) (hpre:∀ j,j<k→bs[j]?=some false):F1 w wr blk off n vs bs k (k+1):=by
 have hkn:k<n:=by rw[← hb];exact (List.getElem?_eq_some_iff.1 hk).1
 have hlen:(bs.take k).length=k:=by simp;omega
 obtain ⟨h1,h2⟩:=OA (W:=3) (bs.take k) vs (fun j hj=>by
  rw[hlen] at hj
  rw[List.getElem?_take_of_lt hj];exact hpre j hj)
 rw[hlen] at h1 h2
 refine ⟨by omega,by omega,hx.mono (fun _ _ _ h=>h.elim),?_,vs,hl,fun t u hu=>BU hx (by simp[Hn]) (hc t u hu),?_,rfl⟩
 ·rw[Gb hk,I0,h2];rfl
 ·rw[Gb hk,I5,h1];simp[CH]
theorem F1.rows {w wr:World} {blk off n i j:Nat} {vs:List Value} {bs:List Bool} (h:F1 w wr blk off n vs bs i j) (hl:vs.length=n * 3) (hj:j<n) {u0 u1 u2:Value} (r0:vs[j * 3]?=some u0) (r1:vs[j * 3+1]?=some u1) (r2:vs[j * 3+2]?=some u2) :
  (wr.cell? ⟨blk,off+j * 3,none⟩=some u0∧wr.cell? ⟨blk,off+j * 3+1,none⟩=some u1∧wr.cell? ⟨blk,off+j * 3+2,none⟩=some u2) ∧
  ∃ y0 y1 y2,wr.cell? ⟨blk,off+i * 3,none⟩=some y0∧wr.cell? ⟨blk,off+i * 3+1,none⟩=some y1∧wr.cell? ⟨blk,off+i * 3+2,none⟩=some y2:=by
 obtain ⟨a,b,c,d,xs,e,f,g,k⟩:=h
 have hx:∀ t,j * 3≤t→xs[t]?=vs[t]? :=by
  intro t ht
  have:=congrArg (fun l:List Value=>l[t - j * 3]?) k
  simp only[List.getElem?_drop] at this
  rwa [show j * 3+(t - j * 3)=t by omega] at this
 refine ⟨⟨f _ _ (by rw[hx _ (by omega)];exact r0),?_,?_⟩,xs[i * 3]'(by omega),xs[i * 3+1]'(by omega),xs[i * 3+2]'(by omega),f _ _ (by simp),?_,?_⟩
 ·rw[Nat.add_assoc];exact f _ _ (by rw[hx _ (by omega)];exact r1)
 ·rw[Nat.add_assoc];exact f _ _ (by rw[hx _ (by omega)];exact r2)
 ·rw[Nat.add_assoc];exact f _ _ (by simp)
 ·rw[Nat.add_assoc];exact f _ _ (by simp)
set_option maxHeartbeats 4000000 in
set_option maxRecDepth 1000000 in
theorem jx (w:World) (k a:Int) (x1 x2:Value) (b off:Nat) (h:w.cell? ⟨b,off,none⟩=some (.int .i64 k)) :
  Calls Tryz.prog 44 #[.agg #[.int .i64 a,x1,x2],.pointer (some ⟨b,off,none⟩)] w fun e w'=>e = .returned (.bool (a==k))∧Aw w w' (fun _ _=>False):=by
 have mixed:Tryz.prog.follows .mixedOrders=true:=Tryz.checked.mixed
 have h2:∀ o,(w.alloc o).cell? ⟨b,off,none⟩=some (.int .i64 k):=fun o=>Lib.cell?_alloc_some _ h
 clear h
 go_enter Tryz.func44,Tryz.ntmps44
 go_wp2
 go_ret
 exact ⟨rfl,Aw.alloc ..⟩
theorem c7:ai Tryz.prog 44 [.leaf,.leaf,.sl .own [.leaf]] [.rf .shr [.leaf]] Ez:=by
 intro w Fz row rvs f ts caps b hR hC hp
 have hp0:=hp
 unfold Ez at hp
 split at hp
 case h_2=>cases hp
 rename_i k a rest
 simp only[zS] at hp
 subst hp
 cases hR with
 | @leaf _ v0 _ _ vs1 _ hl0 hR1 =>
 cases hR1 with
 | @leaf _ v1 _ _ vs2 _ hl1 hR2 =>
 have hlen:=hR2.length_eq.2
 obtain ⟨v2,rfl⟩:∃ v2,vs2=[v2]:=by
  match vs2,hlen with
  | [v2],_=>exact ⟨v2,rfl⟩
 have hl0:v0 = .int .i64 a:=hl0
 subst hl0
 generalize hfp:([]:Fp)=ee at hC
 cases hC with
 | @rfS bb off row' e fr _ _ vs' _ _ _ _ h0 hb hz hs hr' hi hr2 =>
   cases hr2
   obtain ⟨rfl,-⟩:=hi.int_one
   refine jx w k a v1 v2 bb off ?_
   rw[DL hb]
   have:(seg row' off 1)[0]?=some (.int .i64 k):=by rw[show seg row' off 1=_ from hs];rfl
   rw[seg_getElem?,if_pos (by omega)] at this
   exact this
set_option maxHeartbeats 4000000 in
set_option maxRecDepth 1000000 in
theorem iN (w:World) (blk off n cap:Nat) (vs:List Value) (caps:Array Value) (bs:List Bool) (eg:∀ args w,(callFunc 44 args).run Tryz.prog w = .ok (.enter 44 args) w) (hl:vs.length=n * 3) (hb:bs.length=n) (hc:∀ t u,vs[t]?=some u→w.cell? ⟨blk,off+t,none⟩=some u) (hbig:n<4611686018427387904)
  (hp:∀ i c w',bs[i]?=some c→Aw w w' Hn→Calls Tryz.prog 44 (#[.agg ((vs.drop (i * 3)).take 3).toArray]++caps) w' fun e w''=>e = .returned (.bool c)∧Aw w' w'' Hn) :
  Calls Tryz.prog 81 #[.slice (some ⟨blk,off,none⟩) n cap,.func (.func 44) #[] caps] w fun e w'=>e = .returned (.int .i64 (Qb bs 0))∧Aw w w' Hn:=by
 have mixed:Tryz.prog.follows .mixedOrders=true:=Tryz.checked.mixed
 have hpA:Aside _:=hp
 have hcA:Aside _:=hc
 clear hp hc
 go_enter Tryz.func81,Tryz.ntmps81
 go_wp2
 go_loopg [5,8] n (fun gg _ s8 wr=>∃ kk:Nat,kk≤n∧n - kk≤gg∧s8 = .int .i64 kk∧Aside (Aw w wr Hn)∧Aside (∀ j,j<kk→bs[j]?=some false))
 case atStart=>exact ⟨0,Nat.zero_le _,by omega,rfl,(show Aside _ from Aw.refl _ _),(show Aside _ from fun j hj=>absurd hj (Nat.not_lt_zero _))⟩
 case round =>
  obtain ⟨kk,hkk,hg,rfl,hx,A⟩:=hrel
  by_cases hlt:kk<n
  ·have hltz:(kk:Int)<(n:Int):=by omega
   obtain ⟨u0,u1,u2,hrow,r0,r1,r2⟩:=row3 hl hlt
   obtain ⟨c,hcc⟩:∃ c,bs[kk]?=some c:=⟨bs[kk],by simp⟩
   have hcall:=hpA.out kk c wr hcc hx.out
   rw[hrow] at hcall
   have k0:=BU hx.out (by simp[Hn]) (hcA.out _ _ r0)
   have k1:=BU hx.out (by simp[Hn]) (hcA.out _ _ r1)
   have k2:=BU hx.out (by simp[Hn]) (hcA.out _ _ r2)
   rw[← Nat.add_assoc] at k1 k2
   have B:Aside (bs[kk]?=some c):=hcc
   clear hrow r0 r1 r2 hcc
   cases c with
   | true =>
     go_wp2_with (go_at_fn 44;refine (hcall).mono ?_;rintro e w' ⟨rfl,hx2⟩)
     go_ret
     refine ⟨?_,hx.out.trans hx2 (fun _ _ h=>h) (fun _ _ _ h=>h)⟩
     rw[MG bs 0 kk B.out A.out,Nat.zero_add];rfl
   | false =>
     go_wp2_with (go_at_fn 44;refine (hcall).mono ?_;rintro e w' ⟨rfl,hx2⟩)
     go_roundg (n - (kk+1))
     case measure=>omega
     case rel =>
      refine ⟨kk+1,by omega,by omega,by go_num,(show Aside _ from hx.out.trans hx2 (fun _ _ h=>h) (fun _ _ _ h=>h)),(show Aside _ from fun j hj => ?_)⟩
      by_cases e:j=kk
      ·subst e
       exact B.out
      ·exact A.out j (by omega)
  ·have hltz:¬ (kk:Int)<(n:Int):=by omega
   have:kk=n:=by omega
   subst this
   go_wp2
   go_ret
   refine ⟨?_,hx.out⟩
   rw[JD bs 0 (by rw[hb];exact A.out)];rfl
set_option maxHeartbeats 8000000 in
set_option maxRecDepth 1000000 in
theorem eu (w:World) (blk off n cap:Nat) (vs:List Value) (caps:Array Value) (bs:List Bool) (z0 z1 z2:Value) (hz:∀ w,(zeroValue 52).run Tryz.prog w = .ok (.agg #[z0,z1,z2]) w) (hz1:∀ u∈[z0,z1,z2],u.oneCell'=true)
  (eg:∀ args w,(callFunc 44 args).run Tryz.prog w = .ok (.enter 44 args) w) (ei:∀ args w,(callFunc 81 args).run Tryz.prog w = .ok (.enter 81 args) w) (hl:vs.length=n * 3) (hb:bs.length=n) (hc:∀ t u,vs[t]?=some u→w.cell? ⟨blk,off+t,none⟩=some u) (hf:∀ t,t<vs.length→w.frozen? ⟨blk,off+t,none⟩=false) (h1:∀ u∈vs,u.oneCell'=true) (hcap:n≤cap) (hbig:n<4611686018427387904)
  (hp:∀ i c w',bs[i]?=some c→Aw w w' (fun b' t=>b'=blk∧off≤t∧t<off+n * 3)→Calls Tryz.prog 44 (#[.agg ((vs.drop (i * 3)).take 3).toArray]++caps) w' fun e w''=>e = .returned (.bool c)∧Aw w' w'' Hn) :
  Calls Tryz.prog 43 #[.slice (some ⟨blk,off,none⟩) n cap,.func (.func 44) #[] caps] w fun e w'=>e = .returned (.slice (some ⟨blk,off,none⟩) (CT bs) cap)∧Aw w w' (fun b' t=>b'=blk∧off≤t∧t<off+n * 3) ∧
   ∀ t u,(CH 3 bs vs)[t]?=some u→w'.cell? ⟨blk,off+t,none⟩=some u:=by
 have mixed:Tryz.prog.follows .mixedOrders=true:=Tryz.checked.mixed
 have hI:=iN w blk off n cap vs caps bs eg hl hb hc hbig (fun i c w' h hx=>hp i c w' h (hx.mono (fun _ _ _ h=>h.elim)))
 have hpA:Aside _:=hp
 have hcA:Aside _:=hc
 have hfA:Aside _:=hf
 have h1A:Aside _:=h1
 have hzA:Aside _:=hz
 have hz1A:Aside _:=hz1
 clear hp hc hf h1 hz hz1
 rcases WB bs with hno | ⟨k0,hk0,hpre⟩
 ·have e1:Qb bs 0 = -1:=JD bs 0 hno
  obtain ⟨k1,k2⟩:=OA (W:=3) bs vs hno
  rw[e1] at hI
  have k1A:Aside _:=k1
  have k2A:Aside _:=k2
  clear hno k1 k2
  go_enter Tryz.func43,Tryz.ntmps43
  go_wp2_with (go_at_fn 81;refine hI.mono ?_;rintro e w' ⟨rfl,hx⟩)
  go_ret
  refine ⟨?_,hx.mono (fun _ _ _ h=>h.elim),?_⟩
  ·rw[k2A.out,hb];rfl
  ·intro t u hu
   rw[k1A.out,hb,← hl,take_length] at hu
   exact BU hx (by simp[Hn]) (hcA.out t u hu)
 ·have hk:k0<n:=by rw[← hb];exact (List.getElem?_eq_some_iff.1 hk0).1
  have e1:Qb bs 0=(k0:Int):=by rw[MG bs 0 k0 hk0 hpre,Nat.zero_add]
  rw[e1] at hI
  have hne1:((k0:Int) == -1)=false:=beq_eq_false_iff_ne.2 (by omega)
  have hk0A:Aside _:=hk0
  have hpreA:Aside _:=hpre
  clear hk0 hpre e1
  go_enter Tryz.func43,Tryz.ntmps43
  go_wp2_with (go_at_fn 81;refine hI.mono ?_;rintro e w0 ⟨rfl,hx0⟩)
  go_loopg [5,6,7] n (fun gg s5 s6 _ wr=>∃ (i j:Nat),s5 = .int .i64 i∧s6 = .int .i64 j∧n - j≤gg∧Aside (F1 w wr blk off n vs bs i j))
  case atStart =>
   refine ⟨k0,k0+1,rfl,by go_num,by omega,(show Aside _ from ?_)⟩
   exact F1.start hx0 hl hb hcA.out hk0A.out hpreA.out
  case round =>
   obtain ⟨i,j,rfl,rfl,hgg,hD⟩:=hrel
   by_cases hlt:j<n
   ·have hltz:(j:Int)<(n:Int):=by omega
    obtain ⟨u0,u1,u2,hrow,r0,r1,r2⟩:=row3 hl hlt
    obtain ⟨⟨k0',k1,k2⟩,y0,y1,y2,j0,j1,j2⟩:=hD.out.rows hl hlt r0 r1 r2
    have o0:u0.oneCell'=true:=h1A.out _ (List.mem_of_getElem? r0)
    have o1:u1.oneCell'=true:=h1A.out _ (List.mem_of_getElem? r1)
    have o2:u2.oneCell'=true:=h1A.out _ (List.mem_of_getElem? r2)
    obtain ⟨c,hcc⟩:∃ c,bs[j]?=some c:=⟨bs[j],by simp⟩
    have B:Aside (bs[j]?=some c):=hcc
    have R:Aside ((vs.drop (j * 3)).take 3=[u0,u1,u2]):=hrow
    have hij:=hD.out.ij
    have hW1:Calls Tryz.prog 44 (#[.agg #[u0,u1,u2]]++caps) (wr.alloc (Obj.cells #[u0,u1,u2] 52)) fun e w''=>e = .returned (.bool c)∧Aw (wr.alloc (Obj.cells #[u0,u1,u2] 52)) w'' Hn:=by
     have:=hpA.out j c _ hcc (hD.out.ext.trans (Aw.alloc wr (Obj.cells #[u0,u1,u2] 52) Hn) (fun _ _ h=>h) (fun _ _ _ h=>h.elim))
     rw[hrow] at this
     exact this
    have v0:(wr.alloc (Obj.cells #[u0,u1,u2] 52)).cell? ⟨wr.heap.size,0,none⟩=some u0:=by simp
    have v1:(wr.alloc (Obj.cells #[u0,u1,u2] 52)).cell? ⟨wr.heap.size,1,none⟩=some u1:=by simp
    have v2:(wr.alloc (Obj.cells #[u0,u1,u2] 52)).cell? ⟨wr.heap.size,2,none⟩=some u2:=by simp
    have gA:Aside (Aw wr (wr.alloc (Obj.cells #[u0,u1,u2] 52)) Hn):=Aw.alloc _ _ _
    have frz:∀ t,t<n * 3→wr.frozen? ⟨blk,off+t,none⟩=false:=fun t ht=>(Ch hD.out.ext (by rw[hcA.out t vs[t] (List.getElem?_eq_getElem (by omega))];rfl) (hfA.out t (by omega))).2
    have i0:=frz (i * 3) (by omega)
    have i1:=frz (i * 3+1) (by omega)
    have i2:=frz (i * 3+2) (by omega)
    rw[← Nat.add_assoc] at i1 i2
    have V:Aside (_∧_∧_):=⟨v0,v1,v2⟩
    have Y:Aside ((_∧_∧_)∧(_∧_∧_)):=⟨⟨j0,j1,j2⟩,i0,i1,i2⟩
    clear frz v0 v1 v2 j0 j1 j2 i0 i1 i2
    clear hrow r0 r1 r2 hcc
    have s0:∀ a m w,Sem.run Tryz.prog (store a u0 m) w=stored Tryz.prog w a u0 m:=fun a m w=>run_store _ w a _ m o0
    have s1:∀ a m w,Sem.run Tryz.prog (store a u1 m) w=stored Tryz.prog w a u1 m:=fun a m w=>run_store _ w a _ m o1
    have s2:∀ a m w,Sem.run Tryz.prog (store a u2 m) w=stored Tryz.prog w a u2 m:=fun a m w=>run_store _ w a _ m o2
    have zz:=hzA.out
    cases c with
    | true =>
      go_wp2_with (go_at_fn 44;refine hW1.mono ?_;rintro e w2 ⟨rfl,hx2⟩;have hD2:=((hD.out.grow gA.out).grow hx2).skip hlt B.out;have D2:Aside _:=hD2;clear hx2 hD2)
      go_roundg (n - (j+1))
      case measure=>omega
      case rel=>exact ⟨i,j+1,rfl,by go_num,by omega,D2⟩
    | false =>
      go_wp2_with (go_at_fn 44;refine hW1.mono ?_;rintro e w2 ⟨rfl,hx2⟩;have v0:=BU hx2 (by simp[Hn]) V.out.1;have v1:=BU hx2 (by simp[Hn]) V.out.2.1;have v2:=BU hx2 (by simp[Hn]) V.out.2.2;have hg:=gA.out.trans hx2 (W'' :=Hn) (fun _ _ h=>h) (fun _ _ _ h=>h);have t0:=Ch hg (by rw[Y.out.1.1];rfl) Y.out.2.1;have t1:=Ch hg (by rw[Y.out.1.2.1];rfl) Y.out.2.2.1;have t2:=Ch hg (by rw[Y.out.1.2.2];rfl) Y.out.2.2.2;have j0:=BU hg (by simp[Hn]) Y.out.1.1;have j1:=BU hg (by simp[Hn]) Y.out.1.2.1;have j2:=BU hg (by simp[Hn]) Y.out.1.2.2;have i0:=t0.2;have i1:=t1.2;have i2:=t2.2;have hD2:=(hD.out.grow gA.out).grow hx2;have D2:Aside _:=hD2;clear t0 t1 t2 hx2 hD2 hg)
      go_roundg (n - (j+1))
      case measure=>omega
      case rel =>
       exact ⟨i+1,j+1,by go_num,by go_num,by omega,(show Aside _ from D2.out.keep hlt hb B.out R.out)⟩
   ·have hD1:=hD.out
    obtain rfl:j=n:=by have:=hD1.jn;omega
    have hltz:¬ (j:Int)<(j:Int):=by omega
    have hij:=hD1.ij
    have zl:(Builtin.zeroCells (Value.agg #[z0,z1,z2]).cells (j - i)).toList.length=(j - i) * 3:=KR _ _ _ rfl
    have hcl:∀ ty,(Builtin.clear_ #[30] ty #[.slice (some ⟨blk,off+i * 3,none⟩) (j - i) (cap - i)]).run Tryz.prog wr = .ok (.tuple #[]) (wr.setCells blk (off+i * 3) (Builtin.zeroCells (Value.agg #[z0,z1,z2]).cells (j - i)).toList):=by
     intro ty
     refine JX wr 30 52 ty _ Tryz.underlying30 hzA.out blk (off+i * 3) (j - i) (cap - i) (by omega) (Ke _ _ hz1A.out) ?_ ?_
     ·rw[zl]
      intro t ht
      rw[Nat.add_assoc]
      exact (Ch hD1.ext (by rw[hcA.out (i * 3+t) vs[i * 3+t] (List.getElem?_eq_getElem (by omega))];rfl) (hfA.out _ (by omega))).1
     ·rw[zl]
      intro t ht
      rw[Nat.add_assoc]
      exact (Ch hD1.ext (by rw[hcA.out (i * 3+t) vs[i * 3+t] (List.getElem?_eq_getElem (by omega))];rfl) (hfA.out _ (by omega))).2
    have zA:Aside ((Builtin.zeroCells #[z0,z1,z2] (j - i)).toList.length=(j - i) * 3):=zl
    have h3:i≤cap:=by omega
    have h4:i≤j:=by omega
    clear hD1 zl
    go_wp2
    go_ret
    have hD1:=hD.out
    have hk:=hD1.kept
    have tb:bs.take j=bs:=take_of_length_le (by omega)
    rw[tb] at hk
    refine ⟨by rw[hk];rfl,?_,?_⟩
    ·rw[Hj]
     exact hD1.ext.trans (H9 _ wr blk (off+i * 3)) (fun _ _ h=>h) (fun b' t _ h=>⟨h.1,by have:=h.2.1;omega,by have:=h.2.2;rw[zA.out] at this;omega⟩)
    ·intro t u hu
     obtain ⟨xs,e,f,g,k⟩:=hD1.held
     rw[tb] at g
     rw[← g] at hu
     have ht:t<i * 3:=by have:=(List.getElem?_eq_some_iff.1 hu).1;simp at this;omega
     rw[List.getElem?_take_of_lt ht] at hu
     rw[World.cell?_setCells_out blk _ _ _ _ (fun _ _=>Or.inl (by show off+t<off+i * 3;omega))]
     exact f t u hu
set_option maxHeartbeats 1000000 in
set_option maxRecDepth 1000000 in
theorem Xx (w:World) (fv:Value):Calls Tryz.prog 81 #[.slice none 0 0,fv] w fun e w'=>e = .returned (.int .i64 (-1))∧w'=w:=by
 have mixed:Tryz.prog.follows .mixedOrders=true:=Tryz.checked.mixed
 go_enter Tryz.func81,Tryz.ntmps81
 go_wp2
 go_loopg [5,8] 0 (fun _ _ s8 wr=>s8 = .int .i64 0∧wr=w)
 case atStart=>exact ⟨rfl,rfl⟩
 case round =>
  obtain ⟨rfl,rfl⟩:=hrel
  go_wp2
  go_ret
  exact ⟨rfl,rfl⟩
set_option maxHeartbeats 1000000 in
set_option maxRecDepth 1000000 in
theorem fh (w:World) (fv:Value):Calls Tryz.prog 43 #[.slice none 0 0,fv] w fun e w'=>e = .returned (.slice none 0 0)∧Aw w w' (fun _ _=>False):=by
 have mixed:Tryz.prog.follows .mixedOrders=true:=Tryz.checked.mixed
 have hI:=Xx w fv
 have ei:∀ args w,(callFunc 81 args).run Tryz.prog w = .ok (.enter 81 args) w:=enters_of Tryz.func81 (by kernel_rfl) rfl
 go_enter Tryz.func43,Tryz.ntmps43
 go_wp2_with (go_at_fn 81;refine hI.mono ?_;rintro e w' ⟨rfl,rfl⟩)
 go_ret
 exact ⟨rfl,Aw.refl _ _⟩
theorem iU:SJ Tryz.prog 43 3 44 where
 enter:=fun xs w=>by
  have h1 : Tryz.f43.name ≠ "runtime.NumGoroutine" := by
   have : (Tryz.f43.name == "runtime.NumGoroutine") = false := by kernel_rfl
   simpa using this
  have hs:Tryz.f43.body.isSome=true:=by kernel_rfl
  obtain ⟨c,hb⟩:=Option.isSome_iff_exists.1 hs
  simp[callFunc,Tryz.func43,h1,hb]
 none:=fh
 run:=fun w b off n cap vs caps bs hl hb hc hf h1 hn hbig hp=>eu w b off n cap vs caps bs (.int .i64 0) (.int .i64 0) (.slice none 0 0) Tryz.zeroValue52 (by simp[Value.oneCell']) (enters_of Tryz.func44 (by kernel_rfl) rfl) (enters_of Tryz.func81 (by kernel_rfl) rfl) hl hb hc hf h1 hn hbig hp
theorem ok43 {E:A4}:Cm Tryz.prog E 43 (.sem [.io,.val] (G2 44 [.leaf,.leaf,.sl .own [.leaf]] [.rf .shr [.leaf]] Ez)):=XA iU c7
set_option maxHeartbeats 4000000 in
set_option maxRecDepth 1000000 in
theorem jR (w:World) (x1:Value) (n cap b off:Nat) (x:Nat) (h:w.cell? ⟨b,off,none⟩=some (.float .f32 x)) (hn:0<n) :
  Calls Tryz.prog 55 #[.agg #[.int .i64 0,x1,.slice (some ⟨b,off,none⟩) n cap]] w fun e w'=>e = .returned (.bool (FloatKind.f32.format.order x 1065353216==some .eq))∧Aw w w' (fun _ _=>False):=by
 have mixed:Tryz.prog.follows .mixedOrders=true:=Tryz.checked.mixed
 have h2:∀ o,(w.alloc o).cell? ⟨b,off,none⟩=some (.float .f32 x):=fun o=>Lib.cell?_alloc_some _ h
 clear h
 go_enter Tryz.func55,Tryz.ntmps55
 go_wp2
 go_ret
 exact ⟨by simp,Aw.alloc ..⟩
set_option maxHeartbeats 4000000 in
set_option maxRecDepth 1000000 in
theorem bu (w:World) (k:Int) (x1 x2:Value) (hk:k≠0) :
  Calls Tryz.prog 55 #[.agg #[.int .i64 k,x1,x2]] w fun e w'=>e = .returned (.bool false)∧Aw w w' (fun _ _=>False):=by
 have mixed:Tryz.prog.follows .mixedOrders=true:=Tryz.checked.mixed
 have hk2:(k==0)=false:=by simp[hk]
 go_enter Tryz.func55,Tryz.ntmps55
 go_wp2
 go_ret
 exact ⟨rfl,Aw.alloc ..⟩
theorem bS:ai Tryz.prog 55 [.leaf,.leaf,.sl .own [.leaf]] [] GB:=by
 intro w Fz row rvs f ts caps b hR hC hp
 unfold GB at hp
 split at hp
 case h_2=>cases hp
 rename_i k t1 m xs
 cases hC
 cases hR with
 | @leaf _ v0 _ _ vs1 _ hl0 hR1 =>
 cases hR1 with
 | @leaf _ v1 _ _ vs2 _ hl1 hR2 =>
 have hlen:=hR2.length_eq.2
 obtain ⟨v2,rfl⟩:∃ v2,vs2=[v2]:=by
  match vs2,hlen with
  | [v2],_=>exact ⟨v2,rfl⟩
 have hl0:v0 = .int .i64 k:=hl0
 subst hl0
 by_cases hk:k=0
 ·subst hk
  simp only[beq_self_eq_true] at hp
  cases hR2 with
  | slE hq hr2=>cases hp
  | @slO bb off _ cap row e fr _ _ vs' _ _ _ fp₁ fp₂ h0 hb hz hl hn hs hr' hf hi r =>
    cases hm:m with
    | zero=>subst hm;cases hi;cases hp
    | succ m =>
    subst hm
    have hi:R w Fz noLt 0 (.leaf::rep m [.leaf]) _ _ _:=hi
    cases hi with
    | @leaf t v _ _ vs3 _ hlf hrest =>
      split at hp
      case h_2=>cases hp
      rename_i x rest hxs
      simp only[List.cons.injEq] at hxs
      obtain ⟨rfl,-⟩:=hxs
      simp only[zS] at hp
      obtain ⟨bits,rfl,hcan⟩:∃ b,v = .float .f32 b∧At .f32 b=x:=hlf
      have hc0:w.cell? ⟨bb,off,none⟩=some (.float .f32 bits):=by
       rw[DL hb]
       have:(seg row off ((m+1) * [Pm.leaf].length))[0]?=some (.float .f32 bits):=by rw[hs];rfl
       rw[seg_getElem?,if_pos (by simp)] at this
       exact this
      have hrun:=jR w v1 (m+1) cap bb off bits hc0 (by omega)
      have ho:FloatKind.f32.format.order bits 1065353216=FloatKind.f32.format.order x 1065353216:=by
       have:=Jb .f32 bits 1065353216
       rw[hcan,show At .f32 1065353216=1065353216 by decide] at this
       exact this.symm
      rw[ho,hp] at hrun
      exact hrun
 ·have hk2:(k==0)=false:=by simp[hk]
  rw[hk2] at hp
  cases hp
  exact bu w k v1 v2 hk
set_option maxHeartbeats 4000000 in
set_option maxRecDepth 1000000 in
theorem jF (w:World) (blk off n cap:Nat) (vs:List Value) (caps:Array Value) (bs:List Bool) (eg:∀ args w,(callFunc 55 args).run Tryz.prog w = .ok (.enter 55 args) w) (hl:vs.length=n * 3) (hb:bs.length=n) (hc:∀ t u,vs[t]?=some u→w.cell? ⟨blk,off+t,none⟩=some u) (hbig:n<4611686018427387904)
  (hp:∀ i c w',bs[i]?=some c→Aw w w' Hn→Calls Tryz.prog 55 (#[.agg ((vs.drop (i * 3)).take 3).toArray]++caps) w' fun e w''=>e = .returned (.bool c)∧Aw w' w'' Hn) :
  Calls Tryz.prog 98 #[.slice (some ⟨blk,off,none⟩) n cap,.func (.func 55) #[] caps] w fun e w'=>e = .returned (.int .i64 (Qb bs 0))∧Aw w w' Hn:=by
 have mixed:Tryz.prog.follows .mixedOrders=true:=Tryz.checked.mixed
 have hpA:Aside _:=hp
 have hcA:Aside _:=hc
 clear hp hc
 go_enter Tryz.func98,Tryz.ntmps98
 go_wp2
 go_loopg [5,8] n (fun gg _ s8 wr=>∃ kk:Nat,kk≤n∧n - kk≤gg∧s8 = .int .i64 kk∧Aside (Aw w wr Hn)∧Aside (∀ j,j<kk→bs[j]?=some false))
 case atStart=>exact ⟨0,Nat.zero_le _,by omega,rfl,(show Aside _ from Aw.refl _ _),(show Aside _ from fun j hj=>absurd hj (Nat.not_lt_zero _))⟩
 case round =>
  obtain ⟨kk,hkk,hg,rfl,hx,A⟩:=hrel
  by_cases hlt:kk<n
  ·have hltz:(kk:Int)<(n:Int):=by omega
   obtain ⟨u0,u1,u2,hrow,r0,r1,r2⟩:=row3 hl hlt
   obtain ⟨c,hcc⟩:∃ c,bs[kk]?=some c:=⟨bs[kk],by simp⟩
   have hcall:=hpA.out kk c wr hcc hx.out
   rw[hrow] at hcall
   have k0:=BU hx.out (by simp[Hn]) (hcA.out _ _ r0)
   have k1:=BU hx.out (by simp[Hn]) (hcA.out _ _ r1)
   have k2:=BU hx.out (by simp[Hn]) (hcA.out _ _ r2)
   rw[← Nat.add_assoc] at k1 k2
   have B:Aside (bs[kk]?=some c):=hcc
   clear hrow r0 r1 r2 hcc
   cases c with
   | true =>
     go_wp2_with (go_at_fn 55;refine (hcall).mono ?_;rintro e w' ⟨rfl,hx2⟩)
     go_ret
     refine ⟨?_,hx.out.trans hx2 (fun _ _ h=>h) (fun _ _ _ h=>h)⟩
     rw[MG bs 0 kk B.out A.out,Nat.zero_add];rfl
   | false =>
     go_wp2_with (go_at_fn 55;refine (hcall).mono ?_;rintro e w' ⟨rfl,hx2⟩)
     go_roundg (n - (kk+1))
     case measure=>omega
     case rel =>
      refine ⟨kk+1,by omega,by omega,by go_num,(show Aside _ from hx.out.trans hx2 (fun _ _ h=>h) (fun _ _ _ h=>h)),(show Aside _ from fun j hj => ?_)⟩
      by_cases e:j=kk
      ·subst e
       exact B.out
      ·exact A.out j (by omega)
  ·have hltz:¬ (kk:Int)<(n:Int):=by omega
   have:kk=n:=by omega
   subst this
   go_wp2
   go_ret
   refine ⟨?_,hx.out⟩
   rw[JD bs 0 (by rw[hb];exact A.out)];rfl
set_option maxHeartbeats 8000000 in
set_option maxRecDepth 1000000 in
theorem fD (w:World) (blk off n cap:Nat) (vs:List Value) (caps:Array Value) (bs:List Bool) (z0 z1 z2:Value) (hz:∀ w,(zeroValue 94).run Tryz.prog w = .ok (.agg #[z0,z1,z2]) w) (hz1:∀ u∈[z0,z1,z2],u.oneCell'=true)
  (eg:∀ args w,(callFunc 55 args).run Tryz.prog w = .ok (.enter 55 args) w) (ei:∀ args w,(callFunc 98 args).run Tryz.prog w = .ok (.enter 98 args) w) (hl:vs.length=n * 3) (hb:bs.length=n) (hc:∀ t u,vs[t]?=some u→w.cell? ⟨blk,off+t,none⟩=some u) (hf:∀ t,t<vs.length→w.frozen? ⟨blk,off+t,none⟩=false) (h1:∀ u∈vs,u.oneCell'=true) (hcap:n≤cap) (hbig:n<4611686018427387904)
  (hp:∀ i c w',bs[i]?=some c→Aw w w' (fun b' t=>b'=blk∧off≤t∧t<off+n * 3)→Calls Tryz.prog 55 (#[.agg ((vs.drop (i * 3)).take 3).toArray]++caps) w' fun e w''=>e = .returned (.bool c)∧Aw w' w'' Hn) :
  Calls Tryz.prog 54 #[.slice (some ⟨blk,off,none⟩) n cap,.func (.func 55) #[] caps] w fun e w'=>e = .returned (.slice (some ⟨blk,off,none⟩) (CT bs) cap)∧Aw w w' (fun b' t=>b'=blk∧off≤t∧t<off+n * 3) ∧
   ∀ t u,(CH 3 bs vs)[t]?=some u→w'.cell? ⟨blk,off+t,none⟩=some u:=by
 have mixed:Tryz.prog.follows .mixedOrders=true:=Tryz.checked.mixed
 have hI:=jF w blk off n cap vs caps bs eg hl hb hc hbig (fun i c w' h hx=>hp i c w' h (hx.mono (fun _ _ _ h=>h.elim)))
 have hpA:Aside _:=hp
 have hcA:Aside _:=hc
 have hfA:Aside _:=hf
 have h1A:Aside _:=h1
 have hzA:Aside _:=hz
 have hz1A:Aside _:=hz1
 clear hp hc hf h1 hz hz1
 rcases WB bs with hno | ⟨k0,hk0,hpre⟩
 ·have e1:Qb bs 0 = -1:=JD bs 0 hno
  obtain ⟨k1,k2⟩:=OA (W:=3) bs vs hno
  rw[e1] at hI
  have k1A:Aside _:=k1
  have k2A:Aside _:=k2
  clear hno k1 k2
  go_enter Tryz.func54,Tryz.ntmps54
  go_wp2_with (go_at_fn 98;refine hI.mono ?_;rintro e w' ⟨rfl,hx⟩)
  go_ret
  refine ⟨?_,hx.mono (fun _ _ _ h=>h.elim),?_⟩
  ·rw[k2A.out,hb];rfl
  ·intro t u hu
   rw[k1A.out,hb,← hl,take_length] at hu
   exact BU hx (by simp[Hn]) (hcA.out t u hu)
 ·have hk:k0<n:=by rw[← hb];exact (List.getElem?_eq_some_iff.1 hk0).1
  have e1:Qb bs 0=(k0:Int):=by rw[MG bs 0 k0 hk0 hpre,Nat.zero_add]
  rw[e1] at hI
  have hne1:((k0:Int) == -1)=false:=beq_eq_false_iff_ne.2 (by omega)
  have hk0A:Aside _:=hk0
  have hpreA:Aside _:=hpre
  clear hk0 hpre e1
  go_enter Tryz.func54,Tryz.ntmps54
  go_wp2_with (go_at_fn 98;refine hI.mono ?_;rintro e w0 ⟨rfl,hx0⟩)
  go_loopg [5,6,7] n (fun gg s5 s6 _ wr=>∃ (i j:Nat),s5 = .int .i64 i∧s6 = .int .i64 j∧n - j≤gg∧Aside (F1 w wr blk off n vs bs i j))
  case atStart =>
   refine ⟨k0,k0+1,rfl,by go_num,by omega,(show Aside _ from ?_)⟩
   exact F1.start hx0 hl hb hcA.out hk0A.out hpreA.out
  case round =>
   obtain ⟨i,j,rfl,rfl,hgg,hD⟩:=hrel
   by_cases hlt:j<n
   ·have hltz:(j:Int)<(n:Int):=by omega
    obtain ⟨u0,u1,u2,hrow,r0,r1,r2⟩:=row3 hl hlt
    obtain ⟨⟨k0',k1,k2⟩,y0,y1,y2,j0,j1,j2⟩:=hD.out.rows hl hlt r0 r1 r2
    have o0:u0.oneCell'=true:=h1A.out _ (List.mem_of_getElem? r0)
    have o1:u1.oneCell'=true:=h1A.out _ (List.mem_of_getElem? r1)
    have o2:u2.oneCell'=true:=h1A.out _ (List.mem_of_getElem? r2)
    obtain ⟨c,hcc⟩:∃ c,bs[j]?=some c:=⟨bs[j],by simp⟩
    have B:Aside (bs[j]?=some c):=hcc
    have R:Aside ((vs.drop (j * 3)).take 3=[u0,u1,u2]):=hrow
    have hij:=hD.out.ij
    have hW1:Calls Tryz.prog 55 (#[.agg #[u0,u1,u2]]++caps) (wr.alloc (Obj.cells #[u0,u1,u2] 94)) fun e w''=>e = .returned (.bool c)∧Aw (wr.alloc (Obj.cells #[u0,u1,u2] 94)) w'' Hn:=by
     have:=hpA.out j c _ hcc (hD.out.ext.trans (Aw.alloc wr (Obj.cells #[u0,u1,u2] 94) Hn) (fun _ _ h=>h) (fun _ _ _ h=>h.elim))
     rw[hrow] at this
     exact this
    have v0:(wr.alloc (Obj.cells #[u0,u1,u2] 94)).cell? ⟨wr.heap.size,0,none⟩=some u0:=by simp
    have v1:(wr.alloc (Obj.cells #[u0,u1,u2] 94)).cell? ⟨wr.heap.size,1,none⟩=some u1:=by simp
    have v2:(wr.alloc (Obj.cells #[u0,u1,u2] 94)).cell? ⟨wr.heap.size,2,none⟩=some u2:=by simp
    have gA:Aside (Aw wr (wr.alloc (Obj.cells #[u0,u1,u2] 94)) Hn):=Aw.alloc _ _ _
    have frz:∀ t,t<n * 3→wr.frozen? ⟨blk,off+t,none⟩=false:=fun t ht=>(Ch hD.out.ext (by rw[hcA.out t vs[t] (List.getElem?_eq_getElem (by omega))];rfl) (hfA.out t (by omega))).2
    have i0:=frz (i * 3) (by omega)
    have i1:=frz (i * 3+1) (by omega)
    have i2:=frz (i * 3+2) (by omega)
    rw[← Nat.add_assoc] at i1 i2
    have V:Aside (_∧_∧_):=⟨v0,v1,v2⟩
    have Y:Aside ((_∧_∧_)∧(_∧_∧_)):=⟨⟨j0,j1,j2⟩,i0,i1,i2⟩
    clear frz v0 v1 v2 j0 j1 j2 i0 i1 i2
    clear hrow r0 r1 r2 hcc
    have s0:∀ a m w,Sem.run Tryz.prog (store a u0 m) w=stored Tryz.prog w a u0 m:=fun a m w=>run_store _ w a _ m o0
    have s1:∀ a m w,Sem.run Tryz.prog (store a u1 m) w=stored Tryz.prog w a u1 m:=fun a m w=>run_store _ w a _ m o1
    have s2:∀ a m w,Sem.run Tryz.prog (store a u2 m) w=stored Tryz.prog w a u2 m:=fun a m w=>run_store _ w a _ m o2
    have zz:=hzA.out
    cases c with
    | true =>
      go_wp2_with (go_at_fn 55;refine hW1.mono ?_;rintro e w2 ⟨rfl,hx2⟩;have hD2:=((hD.out.grow gA.out).grow hx2).skip hlt B.out;have D2:Aside _:=hD2;clear hx2 hD2)
      go_roundg (n - (j+1))
      case measure=>omega
      case rel=>exact ⟨i,j+1,rfl,by go_num,by omega,D2⟩
    | false =>
      go_wp2_with (go_at_fn 55;refine hW1.mono ?_;rintro e w2 ⟨rfl,hx2⟩;have v0:=BU hx2 (by simp[Hn]) V.out.1;have v1:=BU hx2 (by simp[Hn]) V.out.2.1;have v2:=BU hx2 (by simp[Hn]) V.out.2.2;have hg:=gA.out.trans hx2 (W'' :=Hn) (fun _ _ h=>h) (fun _ _ _ h=>h);have t0:=Ch hg (by rw[Y.out.1.1];rfl) Y.out.2.1;have t1:=Ch hg (by rw[Y.out.1.2.1];rfl) Y.out.2.2.1;have t2:=Ch hg (by rw[Y.out.1.2.2];rfl) Y.out.2.2.2;have j0:=BU hg (by simp[Hn]) Y.out.1.1;have j1:=BU hg (by simp[Hn]) Y.out.1.2.1;have j2:=BU hg (by simp[Hn]) Y.out.1.2.2;have i0:=t0.2;have i1:=t1.2;have i2:=t2.2;have hD2:=(hD.out.grow gA.out).grow hx2;have D2:Aside _:=hD2;clear t0 t1 t2 hx2 hD2 hg)
      go_roundg (n - (j+1))
      case measure=>omega
      case rel =>
       exact ⟨i+1,j+1,by go_num,by go_num,by omega,(show Aside _ from D2.out.keep hlt hb B.out R.out)⟩
   ·have hD1:=hD.out
    obtain rfl:j=n:=by have:=hD1.jn;omega
    have hltz:¬ (j:Int)<(j:Int):=by omega
    have hij:=hD1.ij
    have zl:(Builtin.zeroCells (Value.agg #[z0,z1,z2]).cells (j - i)).toList.length=(j - i) * 3:=KR _ _ _ rfl
    have hcl:∀ ty,(Builtin.clear_ #[53] ty #[.slice (some ⟨blk,off+i * 3,none⟩) (j - i) (cap - i)]).run Tryz.prog wr = .ok (.tuple #[]) (wr.setCells blk (off+i * 3) (Builtin.zeroCells (Value.agg #[z0,z1,z2]).cells (j - i)).toList):=by
     intro ty
     refine JX wr 53 94 ty _ Tryz.underlying53 hzA.out blk (off+i * 3) (j - i) (cap - i) (by omega) (Ke _ _ hz1A.out) ?_ ?_
     ·rw[zl]
      intro t ht
      rw[Nat.add_assoc]
      exact (Ch hD1.ext (by rw[hcA.out (i * 3+t) vs[i * 3+t] (List.getElem?_eq_getElem (by omega))];rfl) (hfA.out _ (by omega))).1
     ·rw[zl]
      intro t ht
      rw[Nat.add_assoc]
      exact (Ch hD1.ext (by rw[hcA.out (i * 3+t) vs[i * 3+t] (List.getElem?_eq_getElem (by omega))];rfl) (hfA.out _ (by omega))).2
    have zA:Aside ((Builtin.zeroCells #[z0,z1,z2] (j - i)).toList.length=(j - i) * 3):=zl
    have h3:i≤cap:=by omega
    have h4:i≤j:=by omega
    clear hD1 zl
    go_wp2
    go_ret
    have hD1:=hD.out
    have hk:=hD1.kept
    have tb:bs.take j=bs:=take_of_length_le (by omega)
    rw[tb] at hk
    refine ⟨by rw[hk];rfl,?_,?_⟩
    ·rw[Hj]
     exact hD1.ext.trans (H9 _ wr blk (off+i * 3)) (fun _ _ h=>h) (fun b' t _ h=>⟨h.1,by have:=h.2.1;omega,by have:=h.2.2;rw[zA.out] at this;omega⟩)
    ·intro t u hu
     obtain ⟨xs,e,f,g,k⟩:=hD1.held
     rw[tb] at g
     rw[← g] at hu
     have ht:t<i * 3:=by have:=(List.getElem?_eq_some_iff.1 hu).1;simp at this;omega
     rw[List.getElem?_take_of_lt ht] at hu
     rw[World.cell?_setCells_out blk _ _ _ _ (fun _ _=>Or.inl (by show off+t<off+i * 3;omega))]
     exact f t u hu
set_option maxHeartbeats 1000000 in
set_option maxRecDepth 1000000 in
theorem Xk (w:World) (fv:Value):Calls Tryz.prog 98 #[.slice none 0 0,fv] w fun e w'=>e = .returned (.int .i64 (-1))∧w'=w:=by
 have mixed:Tryz.prog.follows .mixedOrders=true:=Tryz.checked.mixed
 go_enter Tryz.func98,Tryz.ntmps98
 go_wp2
 go_loopg [5,8] 0 (fun _ _ s8 wr=>s8 = .int .i64 0∧wr=w)
 case atStart=>exact ⟨rfl,rfl⟩
 case round =>
  obtain ⟨rfl,rfl⟩:=hrel
  go_wp2
  go_ret
  exact ⟨rfl,rfl⟩
set_option maxHeartbeats 1000000 in
set_option maxRecDepth 1000000 in
theorem gR (w:World) (fv:Value):Calls Tryz.prog 54 #[.slice none 0 0,fv] w fun e w'=>e = .returned (.slice none 0 0)∧Aw w w' (fun _ _=>False):=by
 have mixed:Tryz.prog.follows .mixedOrders=true:=Tryz.checked.mixed
 have hI:=Xk w fv
 have ei:∀ args w,(callFunc 98 args).run Tryz.prog w = .ok (.enter 98 args) w:=enters_of Tryz.func98 (by kernel_rfl) rfl
 go_enter Tryz.func54,Tryz.ntmps54
 go_wp2_with (go_at_fn 98;refine hI.mono ?_;rintro e w' ⟨rfl,rfl⟩)
 go_ret
 exact ⟨rfl,Aw.refl _ _⟩
theorem iu:SJ Tryz.prog 54 3 55 where
 enter:=fun xs w=>by
  have h1 : Tryz.f54.name ≠ "runtime.NumGoroutine" := by
   have : (Tryz.f54.name == "runtime.NumGoroutine") = false := by kernel_rfl
   simpa using this
  have hs:Tryz.f54.body.isSome=true:=by kernel_rfl
  obtain ⟨c,hb⟩:=Option.isSome_iff_exists.1 hs
  simp[callFunc,Tryz.func54,h1,hb]
 none:=gR
 run:=fun w b off n cap vs caps bs hl hb hc hf h1 hn hbig hp=>fD w b off n cap vs caps bs (.int .i64 0) (.int .i64 0) (.slice none 0 0) Tryz.zeroValue94 (by simp[Value.oneCell']) (enters_of Tryz.func55 (by kernel_rfl) rfl) (enters_of Tryz.func98 (by kernel_rfl) rfl) hl hb hc hf h1 hn hbig hp
theorem ok54 {E:A4}:Cm Tryz.prog E 54 (.sem [.io,.val] (G2 55 [.leaf,.leaf,.sl .own [.leaf]] [] GB)):=XA iu bS
end Go.Proofs.YtdobhipbgpiceaaGreat.DS
end
noncomputable section
namespace Go.Proofs.YtdobhipbgpiceaaGreat.D
open Go Go.Desk
def AC (f:Func):Code:=match f.body with
 | some c=>c
 | none => .skip
def Ni:List (Nat × TD):=[
 (2,⟨false,1,8,[.leaf],[.int .i64 0],.int .i64⟩),
 (3,⟨false,1,8,[.leaf],[.int .i64 0],.int .i64⟩),
 (4,⟨false,1,1,[.leaf],[.bool false],.bool⟩),
 (5,⟨false,1,1,[.leaf],[.int .u8 0],.int .u8⟩),
 (27,⟨false,1,24,[.sl .own [.leaf]],[.lst 0 []],.slc 54⟩),
 (30,⟨false,1,24,[.sl .own [.leaf,.leaf,.sl .own [.leaf]]],[.lst 0 []],.slc 52⟩),
 (31,⟨false,1,24,[.sl .own [.sl .own [.leaf,.leaf,.sl .own [.leaf]],.leaf,.leaf,.leaf,.leaf]],[.lst 0 []],.slc 56⟩),
 (33,⟨true,2,48,[.sl .own [.leaf,.leaf,.sl .own [.leaf]],.sl .own [.sl .own [.leaf,.leaf,.sl .own [.leaf]],.leaf,.leaf,.leaf,.leaf]],[.lst 0 [],.lst 0 []],.st [(0,30),(1,31)]⟩),
 (42,⟨false,1,24,[.sl .own [.leaf]],[.lst 0 []],.slc 5⟩),
 (52,⟨true,3,40,[.leaf,.leaf,.sl .own [.leaf]],[.int .i64 0,.int .i64 0,.lst 0 []],.st [(0,2),(1,2),(2,27)]⟩),
 (53,⟨false,1,24,[.sl .own [.leaf,.leaf,.sl .own [.leaf]]],[.lst 0 []],.slc 94⟩),
 (54,⟨false,1,4,[.leaf],[.flt .f32 0],.flt .f32⟩),
 (56,⟨true,5,40,[.sl .own [.leaf,.leaf,.sl .own [.leaf]],.leaf,.leaf,.leaf,.leaf],[.lst 0 [],.int .i64 0,.flt .f32 0,.bool false,.bool false],.st [(0,53),(1,2),(2,54),(3,4),(4,4)]⟩),
 (60,⟨false,1,8,[.leaf],[.nil],.ptr 33⟩),
 (69,⟨false,1,8,[.leaf],[.flt .f64 0],.flt .f64⟩),
 (76,⟨false,1,8,[.leaf],[.nil],.ptr 52⟩),
 (81,⟨false,1,8,[.leaf],[.nil],.ptr 126⟩),
 (85,⟨false,1,24,[.sl .own [.sl .own [.leaf],.leaf,.leaf,.leaf,.leaf]],[.lst 0 []],.slc 87⟩),
 (87,⟨true,5,40,[.sl .own [.leaf],.leaf,.leaf,.leaf,.leaf],[.lst 0 [],.int .i64 0,.flt .f32 0,.bool false,.bool false],.st [(0,27),(1,2),(2,54),(3,4),(4,4)]⟩),
 (90,⟨false,1,24,[.sl .own [.leaf]],[.lst 0 []],.slc 4⟩),
 (94,⟨true,3,40,[.leaf,.leaf,.sl .own [.leaf]],[.int .i64 0,.int .i64 0,.lst 0 []],.st [(0,2),(1,2),(2,27)]⟩),
 (107,⟨false,1,8,[.leaf],[.nil],.ptr 56⟩),
 (111,⟨false,1,24,[.sl .own [.sl .own [.leaf]]],[.lst 0 []],.slc 27⟩),
 (124,⟨false,1,8,[.leaf],[.int .u64 0],.int .u64⟩),
 (126,⟨true,3,40,[.sl .own [.leaf],.leaf,.leaf],[.lst 0 [],.int .i64 0,.int .u64 0],.st [(0,42),(1,3),(2,124)]⟩),
 (141,⟨false,1,8,[.leaf],[.nil],.ptr 94⟩),
 (159,⟨true,5,20,[.leaf,.leaf,.leaf,.leaf,.leaf],[.flt .f32 0,.flt .f32 0,.flt .f32 0,.flt .f32 0,.flt .f32 0],.st [(0,54),(1,54),(2,54),(3,54),(4,54)]⟩),
 (161,⟨true,4,16,[.leaf,.leaf,.leaf,.leaf],[.flt .f32 0,.flt .f32 0,.flt .f32 0,.flt .f32 0],.st [(0,54),(1,54),(2,54),(3,54)]⟩),
 (164,⟨false,1,8,[.leaf],[.nil],.ptr 159⟩),
 (166,⟨true,3,12,[.leaf,.leaf,.leaf],[.flt .f32 0,.flt .f32 0,.flt .f32 0],.st [(0,54),(1,54),(2,54)]⟩),
 (168,⟨true,5,20,[.leaf,.leaf,.leaf,.leaf,.leaf],[.flt .f32 0,.flt .f32 0,.flt .f32 0,.flt .f32 0,.flt .f32 0],.st [(0,166),(3,54),(4,54)]⟩),
 (173,⟨true,4,40,[.leaf,.leaf,.leaf,.sl .own [.leaf]],[.flt .f32 0,.flt .f32 0,.flt .f32 0,.lst 0 []],.st [(0,54),(1,54),(2,54),(3,27)]⟩),
 (181,⟨false,1,8,[.leaf],[.int .u64 0],.int .u64⟩),
 (186,⟨false,1,24,[.sl .own [.leaf]],[.lst 0 []],.slc 2⟩),
 (192,⟨false,1,4,[.leaf],[.int .u32 0],.int .u32⟩),
 (197,⟨false,1,8,[.leaf],[.nil],.ptr 166⟩)]
def c5:Code:=AC Tryz.f5
def iK:Code:=AC Tryz.f15
def mz:Code:=AC Tryz.f16
def mS:Code:=AC Tryz.f18
def mK:Code:=AC Tryz.f19
def lL:Code:=AC Tryz.f20
def jt:Code:=AC Tryz.f21
def gH:Code:=AC Tryz.f22
def c23:Code:=AC Tryz.f23
def jY:Code:=AC Tryz.f24
def fQ:Code:=AC Tryz.f27
def lk:Code:=AC Tryz.f28
def mL:Code:=AC Tryz.f29
def mZ:Code:=AC Tryz.f30
def nC:Code:=AC Tryz.f33
def mU:Code:=AC Tryz.f34
def eo:Code:=AC Tryz.f40
def lq:Code:=AC Tryz.f41
def dr:Code:=AC Tryz.f42
def nX:Code:=AC Tryz.f44
def lQ:Code:=AC Tryz.f45
def mN:Code:=AC Tryz.f48
def gU:Code:=AC Tryz.f49
def eh:Code:=AC Tryz.f50
def mA:Code:=AC Tryz.f51
def fC:Code:=AC Tryz.f52
def kX:Code:=AC Tryz.f53
def nY:Code:=AC Tryz.f55
def mj:Code:=AC Tryz.f56
def fA:Code:=AC Tryz.f57
def lS:Code:=AC Tryz.f58
def k7:Code:=AC Tryz.f59
def lh:Code:=AC Tryz.f62
def j9:Code:=AC Tryz.f63
def kf:Code:=AC Tryz.f64
def kr:Code:=AC Tryz.f65
def jj:Code:=AC Tryz.f66
def iO:Code:=AC Tryz.f67
def f8:Code:=AC Tryz.f68
def kv:Code:=AC Tryz.f71
def jI:Code:=AC Tryz.f72
def kK:Code:=AC Tryz.f73
def j5:Code:=AC Tryz.f77
def kp:Code:=AC Tryz.f78
def k9:Code:=AC Tryz.f79
def jr:Code:=AC Tryz.f80
def mQ:Code:=AC Tryz.f83
def lZ:Code:=AC Tryz.f84
def iB:Code:=AC Tryz.f85
def kZ:Code:=AC Tryz.f86
def lI:Code:=AC Tryz.f87
def iw:Code:=AC Tryz.f88
def mJ:Code:=AC Tryz.f89
def lr:Code:=AC Tryz.f90
def lN:Code:=AC Tryz.f91
def kz:Code:=AC Tryz.f92
def mu:Code:=AC Tryz.f93
def kC:Code:=AC Tryz.f94
def nA:Code:=AC Tryz.f95
def mM:Code:=AC Tryz.f96
def ke:Code:=AC Tryz.f97
def k6:Code:=AC Tryz.f99
def gi:Code:=AC Tryz.f102
def fy:Code:=AC Tryz.f103
def VU:Code:=AC Tryz.f104
def fY:Code:=AC Tryz.f105
def Vk:Code:=AC Tryz.f108
def gp:Code:=AC Tryz.f109
def gw:Code:=AC Tryz.f111
def gB:Code:=AC Tryz.f112
def eA:Code:=AC Tryz.f113
def gW:Code:=AC Tryz.f114
def gf:Code:=AC Tryz.f115
def Vz:Code:=AC Tryz.f116
def fV:Code:=AC Tryz.f117
def gO:Code:=AC Tryz.f118
def fj:Code:=AC Tryz.f119
def dp:Code:=AC Tryz.f121
def av:Code:=AC Tryz.f122
def Y3:Code:=AC Tryz.f123
def gL:Code:=AC Tryz.f124
def Zw:Code:=AC Tryz.f125
def aG:Code:=AC Tryz.f126
def dj:Code:=AC Tryz.f127
def Vg:Code:=AC Tryz.f128
def Zb:Code:=AC Tryz.f130
def Zf:Code:=AC Tryz.f131
def gh:Code:=AC Tryz.f132
def dZ:Code:=AC Tryz.f133
def fF:Code:=AC Tryz.f134
def aD:Code:=AC Tryz.f135
def fO:Code:=AC Tryz.f136
def Y7:Code:=AC Tryz.f137
def fZ:Code:=AC Tryz.f139
def d9:Code:=AC Tryz.f140
def dg:Code:=AC Tryz.f141
def f9:Code:=AC Tryz.f142
def fN:Code:=AC Tryz.f143
def eM:Code:=AC Tryz.f144
def eW:Code:=AC Tryz.f145
def ew:Code:=AC Tryz.f146
def fK:Code:=AC Tryz.f147
def fM:Code:=AC Tryz.f148
def eV:Code:=AC Tryz.f149
def Y8:Code:=AC Tryz.f150
def aY:Code:=AC Tryz.f151
def fg:Code:=AC Tryz.f153
def dy:Code:=AC Tryz.f154
def en:Code:=AC Tryz.f155
def gV:Code:=AC Tryz.f156
def gb:Code:=AC Tryz.f157
def eS:Code:=AC Tryz.f158
def du:Code:=AC Tryz.f159
def eL:Code:=AC Tryz.f160
def aA:Code:=AC Tryz.f162
def gv:Code:=AC Tryz.f163
def aI:Code:=AC Tryz.f164
def eZ:Code:=AC Tryz.f165
def gI:Code:=AC Tryz.f166
def gk:Code:=AC Tryz.f168
def gl:Code:=AC Tryz.f171
def eG:Code:=AC Tryz.f172
def fP:Code:=AC Tryz.f173
def ga:Code:=AC Tryz.f175
def di:Code:=AC Tryz.f176
def gJ:Code:=AC Tryz.f177
def eY:Code:=AC Tryz.f178
def jq:Code:=AC Tryz.f180
def Fd:List (Nat × FD):=[
 (5,.code c5 [.val,.val] [] [(4,none)] [(0,[0,1]),(1,[0,1]),(2,[]),(3,[0,1]),(4,[1,5]),(5,[1,5,6]),(6,[5,6,7]),(7,[5,6,7,8,9,10]),(8,[5,6,7,8,9,10,11,12]),(9,[5,6,7,8,9,10,11,12,14]),(10,[5,6,7,8,9,10,11,12,14,15,16]),(11,[5,6,7,8,9,10,11,12,14,15,16,17,18,19]),(12,[5,6,7,8,9,10,11,12,14,15,16,17,18,19,20,21]),(13,[5,6,7,8,9,10,11,12,14,15,16,17,18,19,20,21,22,23]),(14,[]),(15,[6,7,8,9,11,12]),(16,[]),(17,[6,7,8,9,11]),(18,[7,8,9,11,24,25,26]),(19,[7,8,9,11,24,25,26,27]),(20,[7,8,9,11,24,25,26,27,147,148]),(21,[7,8,9,11,24,25,26,27,147,148]),(22,[7,8,9,11,24,25,26,27,28,147,148]),(23,[7,8,9,11,24,25,26,27,147,148]),(24,[7,8,9,11,24,25,26,27,147,148]),(25,[7,8,9,11,24,25,26,27]),(1000020,[7,8,9,11,24,25,26,27])]),
 (15,.code iK [.val,.val,.val] [] [(6,some (true,2)),(7,none)] [(0,[0,1,2]),(1,[1,2,3,6]),(2,[6]),(3,[1,2,3,6]),(4,[1,2,3,6,8]),(5,[1,2,3,6,8]),(6,[1,2,3,6,8,32,33]),(7,[1,2,3,6,8,32,33]),(8,[1,2,3,6,8,9,32,33]),(9,[1,2,3,6,8,9,32,33]),(10,[1,2,3,6,8,32,33]),(11,[1,2,3,6,8]),(12,[1,6,8]),(13,[6,8]),(14,[6]),(15,[6,8]),(1000006,[1,2,3,6,8])]),
 (16,.code mz [.val,.val,.val] [] [(6,some (true,2)),(7,none)] [(0,[0,1,2]),(1,[2,3,4,6]),(2,[6]),(3,[2,3,4,6]),(4,[2,3,4,6,8]),(5,[2,3,4,6,8]),(6,[4,6,8]),(7,[6,8])]),
 (18,.code mS [.val,.val] [] [(4,none)] [(0,[0,1]),(1,[0,1])]),
 (19,.code mK [.val] [] [(2,some (true,2))] [(0,[0]),(1,[0,2]),(2,[2,3])]),
 (20,.code lL [.val,.val,.val] [] [(6,none)] [(0,[0,1,2]),(1,[0,1,2]),(2,[]),(3,[0,1,2]),(4,[0,1,2]),(5,[1,2])]),
 (21,.code jt [.val,.val] [] [(4,none),(5,none),(6,none)] [(0,[0,1]),(1,[1,2]),(2,[]),(3,[1,2]),(4,[1,2,7]),(5,[1,2,7,21,22,23]),(6,[1,2,7,21,22,23]),(7,[1,2,7,8,9,21,22,23]),(8,[1,2,7,21,22,23]),(9,[1,7]),(10,[10,11]),(1000005,[1,7])]),
 (22,.code gH [.val] [] [(2,some (true,2)),(3,none)] [(0,[0]),(1,[1,2]),(2,[2]),(3,[1,2]),(4,[1,2,4]),(5,[1,2,4]),(6,[1,2,4,20,21,22]),(7,[1,2,4,20,21,22]),(8,[1,2,4,5,6,20,21,22]),(9,[1,2,4,5,6,7,20,21,22]),(10,[1,2,4,5,20,21,22]),(11,[1,2,4,5,7,20,21,22]),(12,[1,2,4,7,20,21,22]),(13,[1,2,4,7,8,9,20,21,22]),(14,[1,2,4,7,8,9,20,21,22,48,49,50]),(15,[1,2,4,7,8,9,20,21,22,48,49,50]),(16,[1,2,4,7,8,9,11,20,21,22,48,49,50]),(17,[1,2,4,7,8,9,11,20,21,22,48,49,50]),(18,[1,2,4,7,9,11,20,21,22,48,49,50]),(19,[1,2,4,7,8,9,11,20,21,22,48,49,50]),(20,[1,2,4,7,8,9,20,21,22,48,49,50]),(21,[1,2,4,7,8,9,20,21,22]),(22,[1,2,4,7,8,9,20,21,22]),(23,[1,2,4,20,21,22]),(24,[2,4]),(1000006,[2,4]),(1000014,[1,2,4,7,8,9,20,21,22,72,91])]),
 (23,.code c23 [.val] [] [(2,none),(3,none)] [(0,[0]),(1,[1]),(2,[]),(3,[1]),(4,[1,4]),(5,[1,4,13,14,15]),(6,[1,4,13,14,15]),(7,[1,4,6,13,14,15]),(8,[1,4,13,14,15]),(9,[1,4]),(10,[1,4,27,28,29]),(11,[1,4,27,28,29]),(12,[1,4,7,8,27,28,29]),(13,[1,4,7,27,28,29]),(14,[1,4,27,28,29]),(15,[4]),(1000005,[1,4,46]),(1000010,[4])]),
 (24,.code jY [.val,.val] [] [(4,none)] [(0,[0,1]),(1,[0,1]),(2,[]),(3,[0,1]),(4,[0,1,5]),(5,[0,1,5]),(6,[0,1,5]),(7,[]),(8,[]),(1000004,[4])]),
 (27,.code fQ [.val] [] [(2,none)] [(0,[0]),(1,[0]),(2,[0,3]),(3,[]),(4,[0,3]),(5,[0,3,27,28]),(6,[0,3,27,28]),(7,[0,3,4,27,28]),(8,[0,3,4,5,27,28]),(9,[]),(10,[0,3,27,28]),(11,[0,3]),(12,[0,3,60,61]),(13,[0,3,60,61]),(14,[0,3,6,60,61]),(15,[]),(16,[0,3,60,61]),(17,[]),(1000005,[0,2,3,100]),(1000012,[2])]),
 (28,.code lk [.val,.val,.val] [] [(6,none)] [(0,[0,1,2]),(1,[0,1,2])]),
 (29,.code mL [.val] [] [(2,none)] [(0,[0]),(1,[0])]),
 (30,.code mZ [.val,.val,.val] [] [(6,none)] [(0,[0,1,2]),(1,[0,1,2]),(2,[0,1,2,7]),(3,[8])]),
 (33,.code nC [.val,.val,.val] [] [(6,none)] [(0,[0,1,2]),(1,[1,2,3])]),
 (34,.code mU [.val,.val,.val] [] [(6,none)] [(0,[0,1,2]),(1,[1,2,3]),(2,[1,2,3,7]),(3,[8])]),
 (40,.code eo [.val] [] [(2,some (true,2))] [(0,[0]),(1,[0,2]),(2,[0,2,3]),(3,[0,2,3,14,15]),(4,[0,2,3,14,15]),(5,[0,2,3,4,14,15]),(6,[0,2,3,14,15]),(7,[0,2,3]),(8,[0,2,3,35,36]),(9,[0,2,3,35,36]),(10,[0,2,3,5,35,36]),(11,[0,2,3,6,35,36]),(12,[0,2,3,6,35,36]),(13,[0,2,3,35,36]),(14,[2,3]),(1000003,[0,2,3,56]),(1000008,[2,3])]),
 (41,.code lq [.val] [] [(2,some (true,3))] [(0,[0]),(1,[0,2])]),
 (42,.code dr [.val] [] [(2,some (true,2))] [(0,[0]),(1,[1,2]),(2,[1,2,3]),(3,[1,2,3,9,10,11]),(4,[1,2,3,9,10,11]),(5,[1,2,3,5,9,10,11]),(6,[1,2,3,5,9,10,11]),(7,[1,2,3,9,10,11]),(8,[1,2,3]),(9,[1,2,3,27,28,29]),(10,[1,2,3,27,28,29]),(11,[1,2,3,7,27,28,29]),(12,[1,2,3,7,27,28,29]),(13,[1,2,3,27,28,29]),(14,[2,3]),(1000003,[1,2,3,43]),(1000009,[2,3])]),
 (43,.sem [.io,.val] (G2 44 [.leaf,.leaf,.sl .own [.leaf]] [.rf .shr [.leaf]] Ez)),
 (44,.code nX [.val,.val] [] [(3,none)] [(0,[0,1]),(1,[1,2])]),
 (45,.code lQ [.io] [1] [(2,some (true,2)),(3,none)] [(0,[0]),(1,[1,2]),(2,[1,2]),(3,[1,2])]),
 (48,.code mN [.val] [] [(2,none)] [(0,[0]),(1,[0])]),
 (49,.code gU [.iop] [0] [(2,some (true,2))] [(0,[0]),(1,[0,2]),(2,[0,2,3]),(3,[0,2,3,4]),(4,[0,2,3,4]),(5,[0,2,3,4]),(6,[0,2,3,4,5]),(7,[0,2,3,4,5]),(8,[0,2,3,4,5]),(9,[0,2,3,4,5]),(10,[0,2,3,4,5]),(11,[0,2,3]),(12,[0,2,3,6]),(13,[0,2,3,6]),(14,[0,2,3,6]),(15,[0,2,3,6,7]),(16,[0,2,3,6,7]),(17,[0,2,3,6,7]),(18,[0,2,3]),(1000003,[0,2,3]),(1000012,[0,2,3])]),
 (50,.code eh [.val] [] [(2,none)] [(0,[0]),(1,[1]),(2,[]),(3,[1]),(4,[1,20,21,22]),(5,[1,20,21,22]),(6,[1,4,20,21,22]),(7,[]),(8,[1,20,21,22]),(9,[1]),(10,[1,44,45,46]),(11,[1,44,45,46]),(12,[1,6,44,45,46]),(13,[]),(14,[1,44,45,46]),(15,[]),(1000004,[1,2,69]),(1000010,[2])]),
 (51,.code mA [.val] [] [(2,none)] [(0,[0]),(1,[0])]),
 (52,.code fC [.val,.val] [] [(4,none),(5,none)] [(0,[0,1]),(1,[0,1]),(2,[0,1,6,7]),(3,[0,1,6,7,8]),(4,[0,1,6,7,8,25,26,27]),(5,[0,1,6,7,8,25,26,27]),(6,[0,1,6,7,8,9,10,25,26,27]),(7,[0,1,6,7,8,10,25,26,27]),(8,[0,1,6,7,8,10,11,25,26,27]),(9,[0,1,6,7,8,10,11,13,14,25,26,27]),(10,[0,1,6,7,8,11,13,14,25,26,27,58,59,60]),(11,[0,1,6,7,8,11,13,14,25,26,27,58,59,60]),(12,[0,1,6,7,8,11,13,14,16,17,25,26,27,58,59,60]),(13,[0,1,6,7,8,11,13,14,16,18,25,26,27,58,59,60]),(14,[0,1,6,7,8,11,13,14,16,18,25,26,27,58,59,60]),(15,[0,1,6,7,8,11,13,14,25,26,27,58,59,60]),(16,[0,1,6,7,8,25,26,27]),(17,[6,7]),(1000004,[6,7]),(1000010,[0,1,6,7,8,25,26,27,86,87])]),
 (53,.code kX [.val] [] [(2,none)] [(0,[0]),(1,[1]),(2,[1,3,4]),(3,[1,3,4,8,9,10]),(4,[1,3,4,8,9,10]),(5,[1,3,4,6,8,9,10]),(6,[1,3,4,8,9,10]),(7,[3,4]),(1000003,[3,4])]),
 (54,.sem [.io,.val] (G2 55 [.leaf,.leaf,.sl .own [.leaf]] [] GB)),
 (55,.code nY [.val] [] [(2,none)] [(0,[0]),(1,[1])]),
 (56,.code mj [.val] [] [(2,none)] [(0,[0]),(1,[1])]),
 (57,.code fA [.val,.val,.val,.val] [] [(8,none)] [(0,[0,1,2,3]),(1,[1,2,3,4]),(2,[1,2,3,4,9]),(3,[1,2,3,4,9,18,19,20]),(4,[1,2,3,4,9,18,19,20]),(5,[1,2,3,4,9,11,18,19,20]),(6,[1,2,3,4,9,11,18,19,20]),(7,[1,2,3,4,9,11,18,19,20,29,30,31]),(8,[1,2,3,4,9,11,18,19,20,29,30,31]),(9,[1,2,3,4,9,11,12,13,18,19,20,29,30,31]),(10,[1,2,3,4,9,11,13,14,18,19,20,29,30,31]),(11,[1,2,3,4,9,11,13,14,18,19,20,29,30,31]),(12,[1,2,3,4,9,11,18,19,20,29,30,31]),(13,[1,2,3,4,9,18,19,20]),(14,[9]),(1000003,[9]),(1000007,[1,2,3,4,9,18,19,20,53,54])]),
 (58,.code lS [.val] [] [(2,none)] [(0,[0]),(1,[0])]),
 (59,.code k7 [.val,.val] [] [(4,none)] [(0,[0,1]),(1,[0,1])]),
 (62,.code lh [.val,.io] [1] [(4,some (true,5))] [(0,[0,1]),(1,[0,1,4])]),
 (63,.code j9 [.val] [] [(2,none)] [(0,[0]),(1,[0]),(2,[0,3]),(3,[0,3]),(4,[0,3]),(5,[]),(6,[0]),(1000002,[0,2])]),
 (64,.code kf [.val] [] [(2,none)] [(0,[0]),(1,[0]),(2,[0,5,6]),(3,[0,5,6]),(4,[0,3,5,6]),(5,[]),(6,[0,5,6]),(7,[0]),(1000002,[0,2])]),
 (65,.code kr [.val] [] [(2,none)] [(0,[0]),(1,[0])]),
 (66,.code jj [.val,.val,.val] [] [(6,none),(7,none)] [(0,[0,1,2]),(1,[0,1,2]),(2,[0,1,8]),(3,[0,1,8,9]),(4,[0,1,8,9,10]),(5,[0,1,8,9,10]),(6,[0,1,8,9,10]),(7,[0,1,9,10,11,12]),(8,[0,1,8,9,10,12]),(9,[8,9]),(1000004,[8,9])]),
 (67,.code iO [.val] [] [(2,none)] [(0,[0]),(1,[0]),(2,[0,3]),(3,[0,3,4]),(4,[0,3,4]),(5,[0,3,4]),(6,[0,3,4,6]),(7,[0,3,4,7]),(8,[0,3,4,7]),(9,[0,3,4,7]),(10,[3]),(1000003,[3])]),
 (68,.code f8 [.val,.val,.val] [] [(6,none)] [(0,[0,1,2]),(1,[0,1,2]),(2,[0,1,2,7]),(3,[0,1,2,7,18,19]),(4,[0,1,2,7,18,19]),(5,[0,1,2,7,8,18,19]),(6,[0,1,2,7,9,18,19]),(7,[0,1,2,7,9,18,19]),(8,[0,1,2,7,9,18,19,35,36]),(9,[0,1,2,7,9,18,19,35,36]),(10,[0,1,2,7,9,10,18,19,35,36]),(11,[0,1,2,7,9,10,11,18,19,35,36]),(12,[0,1,2,7,9,10,11,18,19,35,36]),(13,[0,1,2,7,9,18,19,35,36]),(14,[0,1,2,7,18,19]),(15,[7]),(1000003,[7]),(1000008,[0,1,2,7,18,19,59,60])]),
 (71,.code kv [.val,.val] [] [(4,none)] [(0,[0,1]),(1,[0,1])]),
 (72,.code jI [.val,.val,.val] [] [(6,none),(7,none)] [(0,[0,1,2]),(1,[0,1,2]),(2,[0,1,8]),(3,[0,1,8,9]),(4,[0,1,8,9,16,17,18]),(5,[0,1,8,9,16,17,18]),(6,[0,1,8,9,10,11,16,17,18]),(7,[0,1,9,12,13,16,17,18]),(8,[0,1,8,9,13,16,17,18]),(9,[0,1,8,9,16,17,18]),(10,[8,9]),(1000004,[8,9])]),
 (73,.code kK [.val] [] [(2,none)] [(0,[0]),(1,[0]),(2,[0,3]),(3,[0,3,6,7,8]),(4,[0,3,6,7,8]),(5,[0,3,5,6,7,8]),(6,[0,3,6,7,8]),(7,[3]),(1000003,[3])]),
 (77,.code j5 [.val] [] [(2,none)] [(0,[0]),(1,[0]),(2,[0,3]),(3,[0,3,8,9]),(4,[0,3,8,9]),(5,[0,3,4,8,9]),(6,[0,3,5,8,9]),(7,[0,3,5,8,9]),(8,[0,3,8,9]),(9,[3]),(1000003,[3])]),
 (78,.code kp [.val] [] [(2,none)] [(0,[0]),(1,[0])]),
 (79,.code k9 [.val] [] [(2,none)] [(0,[0]),(1,[0])]),
 (80,.code jr [.val] [] [(2,none)] [(0,[0]),(1,[0]),(2,[0,3]),(3,[0,3,6,7,8]),(4,[0,3,6,7,8]),(5,[0,3,5,6,7,8]),(6,[0,3,5,6,7,8]),(7,[0,3,6,7,8]),(8,[3]),(1000003,[3])]),
 (83,.code mQ [.iop,.val] [0] [(4,none)] [(0,[0,1]),(1,[0,1]),(2,[0]),(3,[0,1]),(4,[0,1,5]),(5,[0,1,5]),(6,[0,1,5])]),
 (84,.code lZ [.iop,.val] [0] [(4,none)] [(0,[0,1]),(1,[0,1])]),
 (85,.code iB [.iop] [0] [(2,none)] [(0,[0]),(1,[0]),(2,[0,3]),(3,[0,3,4]),(4,[0,3]),(5,[0,3,4]),(6,[0,3,4]),(7,[0,3,4]),(8,[0,3]),(1000005,[0,3])]),
 (86,.code kZ [.iop,.val] [0] [(4,none)] [(0,[0,1]),(1,[0,1]),(2,[0,1,5]),(3,[0,1,5,6]),(4,[0,1,5,6]),(5,[0,1,5,6]),(6,[0,1,5,6]),(7,[0,1,5,6]),(8,[0,5]),(1000003,[0,5])]),
 (87,.code lI [.val] [] [(2,none)] [(0,[0]),(1,[0])]),
 (88,.code iw [.val] [] [(2,none)] [(0,[0]),(1,[0]),(2,[]),(3,[0]),(4,[0,8,9,10]),(5,[0,8,9,10]),(6,[0,4,8,9,10]),(7,[]),(8,[0,8,9,10]),(9,[]),(1000004,[2])]),
 (89,.code mJ [.val] [] [(2,none)] [(0,[0]),(1,[0])]),
 (90,.code lr [.val] [] [(2,none)] [(0,[0]),(1,[0])]),
 (91,.code lN [.val] [] [(2,none)] [(0,[0]),(1,[0])]),
 (92,.code kz [.val,.val,.val] [] [(6,none)] [(0,[0,1,2]),(1,[0,1,2])]),
 (93,.code mu [.val] [] [(2,none)] [(0,[0]),(1,[0])]),
 (94,.code kC [.val] [] [(2,none)] [(0,[0]),(1,[0]),(2,[0,3,4]),(3,[0,3,4,7,8,9]),(4,[0,3,4,7,8,9]),(5,[0,3,4,6,7,8,9]),(6,[0,3,4,7,8,9]),(7,[3,4]),(1000003,[3,4])]),
 (95,.code nA [.val] [] [(2,none),(3,none)] [(0,[0]),(1,[0]),(2,[]),(3,[0])]),
 (96,.code mM [.val] [] [(2,none),(3,none),(4,none)] [(0,[0]),(1,[0]),(2,[]),(3,[0])]),
 (97,.code ke [.val,.val] [] [(4,none)] [(0,[0,1]),(1,[0,1]),(2,[0,1,5]),(3,[0,1,5,6]),(4,[0,1,5,6,11,12,13]),(5,[0,1,5,6,11,12,13]),(6,[0,1,5,6,7,8,11,12,13]),(7,[0,1,5,6,11,12,13]),(8,[6]),(1000004,[6])]),
 (99,.code k6 [.val,.val] [] [(4,none)] [(0,[0,1]),(1,[0,1])]),
 (102,.code gi [.val] [] [(2,none)] [(0,[0]),(1,[0]),(2,[0,3]),(3,[0,3,4]),(4,[0]),(5,[0,3]),(6,[0,3,4]),(7,[0,3]),(8,[0,3,4]),(9,[]),(10,[0]),(11,[0,5])]),
 (103,.code fy [.val] [] [(2,none)] [(0,[0]),(1,[0])]),
 (104,.code VU [.val,.val,.val] [] [(6,none),(7,none)] [(0,[0,1,2]),(1,[0,1,2]),(2,[0,1,2,8]),(3,[0,1,2,8,34]),(4,[2,8]),(5,[0,1,2,8,34]),(6,[1,2,8]),(7,[1,2,9]),(8,[10,11]),(9,[0,1,2,8,34]),(10,[1,2,8]),(11,[2,8,12]),(12,[2,8,12,13]),(13,[2,8,12,13,14]),(14,[2,8,12,13,14]),(15,[2,8,12,13,14]),(16,[2,8,12,13,14,15]),(17,[2,8,12,13,14,15]),(18,[12,13]),(19,[0,1,2,8,34]),(20,[1,2,8]),(21,[2,16]),(22,[17,18]),(23,[0,1,2,8,34]),(24,[2,8]),(25,[19]),(26,[0,1,2,8,34]),(27,[2]),(28,[2,21]),(29,[2,21,22]),(30,[2,21,22]),(31,[2,21,22]),(32,[21]),(33,[1,2,8]),(34,[2,23]),(35,[24,25]),(1000013,[12,13]),(1000029,[21])]),
 (105,.code fY [.val,.val] [] [(4,none),(5,none)] [(0,[0,1]),(1,[0,1]),(2,[0,1,6]),(3,[0,1,6]),(4,[]),(5,[0,1,6]),(6,[]),(7,[0,1,6]),(8,[1]),(9,[0,1,6]),(10,[]),(11,[0,1,6]),(12,[]),(13,[0,1,6]),(14,[1]),(15,[])]),
 (108,.code Vk [.val,.val,.val] [] [(6,none),(7,none)] [(0,[0,1,2]),(1,[1,2,3]),(2,[1,2,3,8]),(3,[1,2,3,8,31]),(4,[2,8]),(5,[1,2,3,8,31]),(6,[1,2,8]),(7,[1,2,9]),(8,[10,11]),(9,[1,2,3,8,31]),(10,[1,2,8]),(11,[2,8,12]),(12,[2,8,12,13]),(13,[2,8,12,13,80,81,82]),(14,[2,8,12,13,80,81,82]),(15,[2,8,12,13,15,80,81,82]),(16,[2,8,12,13,15,16,80,81,82]),(17,[2,8,12,13,15,16,80,81,82]),(18,[2,8,12,13,80,81,82]),(19,[12,13]),(20,[1,2,3,8,31]),(21,[1,2,8]),(22,[2,17]),(23,[17,18]),(24,[1,2,3,8,31]),(25,[2,8]),(26,[20]),(27,[1,2,3,8,31]),(28,[2]),(29,[2,22]),(30,[2,22,156,157,158]),(31,[2,22,156,157,158]),(32,[2,22,24,156,157,158]),(33,[2,22,156,157,158]),(34,[22]),(35,[1,2,8]),(36,[25,26]),(1000013,[12,13]),(1000030,[22])]),
 (109,.code gp [.val] [] [(2,none)] [(0,[0]),(1,[1]),(2,[1,4]),(3,[]),(4,[1,4]),(5,[1]),(6,[1,4]),(7,[]),(8,[1,4]),(9,[1]),(10,[])]),
 (111,.code gw [.iop] [0] [(2,none)] [(0,[0]),(1,[0]),(2,[0,3]),(3,[0]),(4,[0,3]),(5,[0,3]),(6,[0,3]),(7,[0,3]),(8,[0])]),
 (112,.code gB [.iop] [0] [(2,some (true,3))] [(0,[0]),(1,[0,2]),(2,[0,2,3]),(3,[0,2,3,11]),(4,[0,2,3,11]),(5,[0,2,3]),(6,[0,2,3,11]),(7,[0,2,3]),(8,[0,2,3,4]),(9,[0,2,3,11]),(10,[0,2,3]),(11,[0,2,3]),(12,[0,2,3]),(13,[0,2,3,11]),(14,[0,2,3]),(15,[0,2,3,5]),(16,[0,2,3,11]),(17,[0,2,3]),(18,[0,2,3]),(19,[0,2,3]),(20,[0,2,3])]),
 (113,.code eA [.iop] [0] [(2,none)] [(0,[0]),(1,[0]),(2,[0]),(3,[0]),(4,[0,10]),(5,[0]),(6,[0,10]),(7,[0]),(8,[0,3]),(9,[0,10]),(10,[0]),(11,[0])]),
 (114,.code gW [.iop] [0] [(2,none)] [(0,[0]),(1,[0]),(2,[0,3]),(3,[0,3]),(4,[0,3])]),
 (115,.code gf [.val] [] [(2,none)] [(0,[0]),(1,[1]),(2,[1,4]),(3,[1,4]),(4,[1]),(5,[1,4]),(6,[1]),(7,[1,4]),(8,[1]),(9,[1,4]),(10,[1]),(11,[1,4]),(12,[1]),(13,[1,4]),(14,[1]),(15,[])]),
 (116,.code Vz [.val] [] [(2,none)] [(0,[0]),(1,[0]),(2,[]),(3,[0]),(4,[]),(5,[0]),(6,[3,4]),(7,[3,4,5]),(8,[3,4,5]),(9,[3,4,5]),(10,[4]),(11,[4,6]),(12,[4,6]),(13,[4,6]),(14,[4]),(1000007,[4]),(1000011,[4])]),
 (117,.code fV [.val] [] [(2,none)] [(0,[0]),(1,[0]),(2,[3]),(3,[]),(4,[3]),(5,[]),(6,[3])]),
 (118,.code gO [.val,.val] [] [(4,none)] [(0,[0,1]),(1,[0,1])]),
 (119,.code fj [.val] [] [(2,none)] [(0,[0]),(1,[0]),(2,[]),(3,[0])]),
 (121,.code dp [.val] [] [(2,none)] [(0,[0]),(1,[0])]),
 (122,.code av [.val,.val] [] [(4,none)] [(0,[0,1]),(1,[0,1]),(2,[0,1,5]),(3,[0,1,5,6]),(4,[0,1,5,6]),(5,[0,1,5,6]),(6,[5]),(1000003,[5])]),
 (123,.code Y3 [.val,.val,.val,.val,.val] [] [(10,none),(11,some (true,4))] [(0,[0,1,2,3,4]),(1,[0,1,2,4,8,11]),(2,[0,1,2,4,8,11,12]),(3,[0,1,2,4,8,11,12,13]),(4,[0,1,2,4,8,11,12,13]),(5,[0,1,2,4,8,11,12,13]),(6,[0,1,2,4,8,11,12,13,14,15]),(7,[0,1,2,4,8,11,12,13,15]),(8,[8,11,12]),(1000003,[8,11,12])]),
 (124,.code gL [.val] [] [(2,none)] [(0,[0]),(1,[0]),(2,[0,3]),(3,[3]),(4,[0])]),
 (125,.code Zw [.val,.val,.val] [] [(6,none),(7,some (true,5))] [(0,[0,1,2]),(1,[1,2,3,7]),(2,[1,2,3,7,8]),(3,[1,2,3,7,8,9]),(4,[1,2,3,7,8,9]),(5,[1,2,3,7,8,9]),(6,[1,2,3,7,8,9]),(7,[3,7,8]),(1000003,[3,7,8])]),
 (126,.code aG [.val,.val] [] [(4,none),(5,none)] [(0,[0,1]),(1,[0,1]),(2,[]),(3,[0,1]),(4,[0,1,6]),(5,[0,1,6,7]),(6,[0,1,6,7]),(7,[0,1,6,7]),(8,[6]),(1000005,[6])]),
 (127,.code dj [.val] [] [(2,none)] [(0,[0]),(1,[0]),(2,[]),(3,[0]),(4,[]),(5,[0]),(6,[0,3])]),
 (128,.code Vg [.val,.val] [] [(4,none),(5,some (true,4)),(6,none)] [(0,[0,1]),(1,[1,2,5]),(2,[5]),(3,[1,2,5]),(4,[1,2,5,7]),(5,[1,2,5,7,8]),(6,[1,2,5,7,8,9]),(7,[1,2,5,7,8,9]),(8,[1,2,5,7,8,9]),(9,[1,2,5,7,8,9]),(10,[1,2,5,7,8,9,10]),(11,[1,2,5,7,8,9,10,11]),(12,[1,2,5,7,8,9,10,11]),(13,[1,2,5,7,8,9,10,11]),(14,[1,2,5,7,8,9,11]),(15,[1,2,5,7,8,9,10]),(16,[1,2,5,7,8,9,10,12]),(17,[1,2,5,7,8,9,10]),(18,[1,2,5,7,8,9,12]),(19,[1,2,5,7,8,9,12,13]),(20,[1,2,5,7,8,9,12]),(21,[1,2,5,7,8,9,13]),(22,[1,2,5,7,8,9,13]),(23,[1,2,5,7,8,9]),(24,[2,5,7,8]),(25,[2,5,8]),(1000006,[2,5,7,8]),(1000011,[1,2,5,7,8,9,10])]),
 (130,.code Zb [.val,.val] [] [(4,none)] [(0,[0,1]),(1,[0,1]),(2,[0,1,5]),(3,[0,1,5,8,9,10]),(4,[0,1,5,8,9,10]),(5,[0,1,5,7,8,9,10]),(6,[0,1,5,8,9,10]),(7,[5]),(1000003,[5])]),
 (131,.code Zf [.val,.val,.val,.val,.val] [] [(10,none),(11,some (true,4))] [(0,[0,1,2,3,4]),(1,[1,2,4,5,8,11]),(2,[1,2,4,5,8,11,12]),(3,[1,2,4,5,8,11,12,17,18,19]),(4,[1,2,4,5,8,11,12,17,18,19]),(5,[1,2,4,5,8,11,12,14,17,18,19]),(6,[1,2,4,5,8,11,12,15,16,17,18,19]),(7,[1,2,4,5,8,11,12,15,17,18,19]),(8,[1,2,4,5,8,11,12,17,18,19]),(9,[8,11,12]),(1000003,[8,11,12])]),
 (132,.code gh [.val,.val] [] [(4,none)] [(0,[0,1]),(1,[0,1])]),
 (133,.code dZ [.val] [] [(2,none)] [(0,[0]),(1,[0]),(2,[0]),(3,[0])]),
 (134,.code fF [.val,.val] [] [(4,none),(5,some (true,5)),(6,none)] [(0,[0,1]),(1,[1,2,5])]),
 (135,.code aD [.val,.val] [] [(4,none),(5,none)] [(0,[0,1]),(1,[0,1]),(2,[]),(3,[0,1]),(4,[0,1,6]),(5,[0,1,6,12,13,14]),(6,[0,1,6,12,13,14]),(7,[0,1,6,8,12,13,14]),(8,[0,1,6,12,13,14]),(9,[6]),(1000005,[6])]),
 (136,.code fO [.val] [] [(2,none)] [(0,[0]),(1,[0]),(2,[]),(3,[0]),(4,[]),(5,[0])]),
 (137,.code Y7 [.val,.val] [] [(4,none),(5,some (true,4)),(6,none)] [(0,[0,1]),(1,[1,2,5]),(2,[5]),(3,[1,2,5]),(4,[1,2,5]),(5,[1,2,5,7,1000000002]),(6,[1,2,5,7,34,35,36,1000000002]),(7,[1,2,5,7,34,35,36,1000000002]),(8,[1,2,5,7,9,34,35,36,1000000002]),(9,[1,2,5,7,10,34,35,36,1000000010,1000000002]),(10,[1,2,5,7,10,11,34,35,36,1000000010,1000000002]),(11,[1,2,5,7,10,11,12,34,35,36,1000000010,1000000002]),(12,[1,2,5,7,10,12,34,35,36,1000000010,1000000002]),(13,[1,2,5,7,10,11,34,35,36,1000000010,1000000002]),(14,[1,2,5,7,10,11,13,34,35,36,1000000010,1000000002]),(15,[1,2,5,7,10,11,34,35,36,1000000010,1000000002]),(16,[1,2,5,7,10,13,34,35,36,1000000010,1000000002]),(17,[1,2,5,7,10,13,34,35,36,1000000010,1000000002]),(18,[1,2,5,7,10,13,34,35,36,1000000010,1000000002]),(19,[1,2,5,7,34,35,36,1000000002]),(20,[2,5,7]),(21,[2,5,7]),(1000006,[2,5,7,1000000002])]),
 (139,.code fZ [.iop] [0] [(2,none)] [(0,[0]),(1,[0]),(2,[0]),(3,[0])]),
 (140,.code d9 [.iop] [0] [(2,some (true,5))] [(0,[0]),(1,[0,2]),(2,[0,2,3]),(3,[0,2,3]),(4,[0,2,3]),(5,[0,2,3]),(6,[0,2,3]),(7,[0,2,3]),(8,[0,2,3]),(9,[0,2,3]),(10,[0,2,3])]),
 (141,.code dg [.iop] [0] [(2,some (true,5))] [(0,[0]),(1,[0,2]),(2,[0,2,3]),(3,[0,2,3]),(4,[0,2,3]),(5,[0,2,3]),(6,[0,2,3])]),
 (142,.code f9 [.val] [] [(2,none)] [(0,[0]),(1,[0])]),
 (143,.code fN [.iop,.io] [0,1] [(4,none)] [(0,[0,1]),(1,[0,1])]),
 (144,.code eM [.val,.val,.val,.val] [] [(8,none)] [(0,[0,1,2,3]),(1,[1,2,3,4])]),
 (145,.code eW [.val] [] [(2,none)] [(0,[0]),(1,[0])]),
 (146,.code ew [.val] [] [(2,none)] [(0,[0]),(1,[0]),(2,[0]),(3,[]),(4,[]),(5,[3])]),
 (147,.code fK [.val] [] [(2,none)] [(0,[0]),(1,[0])]),
 (148,.code fM [] [] [(0,none)] [(0,[]),(1,[])]),
 (149,.code eV [.val] [] [(2,none)] [(0,[0]),(1,[0])]),
 (150,.code Y8 [.val] [] [(2,none)] [(0,[0]),(1,[0]),(2,[3]),(3,[3,4]),(4,[3,4]),(5,[3,4]),(6,[3,4]),(7,[3,4]),(8,[4,5]),(9,[4,5,6]),(10,[4,5,6,7]),(11,[4,5,6,7,8]),(12,[4,5,6,7,8]),(13,[4,5,6,7,8]),(14,[4,5,7]),(15,[5,7]),(16,[5,7]),(1000011,[4,5,7])]),
 (151,.code aY [.val,.val] [] [(4,none)] [(0,[0,1]),(1,[0,1]),(2,[0,1,7,8]),(3,[0,1,7,8]),(4,[0,1,5,7,8]),(5,[5]),(6,[0,1,7,8]),(7,[]),(1000002,[4])]),
 (152,.ext (Gh)),
 (153,.code fg [.val] [] [(2,none)] [(0,[0]),(1,[0])]),
 (154,.code dy [.val,.val,.val,.val,.val] [] [(10,none),(11,some (true,4))] [(0,[0,1,2,3,4]),(1,[0,1,2,4,8,11]),(2,[0,1,2,4,8,11]),(3,[0,1,2,4,8,11,13]),(4,[0,2,4,8,11,13]),(5,[0,2,8,11,13,15]),(6,[0,2,8,11,13,15]),(7,[0,2,8,11,12,13,15]),(8,[2,8,11,12,13,15]),(9,[0,1,2,4,8,11,13,17]),(10,[0,2,4,8,11,13]),(11,[0,2,4,8,11,12,13]),(12,[0,2,4,8,11,12,13]),(13,[0,2,4,8,11,12,13]),(14,[2,4,8,11,12,13]),(15,[2,4,8,11,12,13]),(16,[0,1,2,4,8,11,13,17]),(17,[0,2,4,8,11,13]),(18,[0,2,4,8,11,12,13]),(19,[0,2,4,8,11,12,13,14]),(20,[2,11,12,13]),(21,[11,12,13]),(22,[11,12,13])]),
 (155,.code en [.val,.val,.val] [] [(6,none)] [(0,[0,1,2]),(1,[0,1,2]),(2,[0,1,7]),(3,[0,1,7,8]),(4,[0,1,7]),(5,[1,7,8]),(6,[1,8,9])]),
 (156,.code gV [.val,.val,.val] [] [(6,none)] [(0,[0,1,2]),(1,[0,1,2]),(2,[]),(3,[0,1,2]),(4,[0,1,7])]),
 (157,.code gb [.val,.val] [] [(4,none)] [(0,[0,1]),(1,[0,1]),(2,[0,1]),(3,[1]),(4,[1]),(5,[0])]),
 (158,.code eS [.val] [] [(2,none)] [(0,[0]),(1,[0]),(2,[0]),(3,[0])]),
 (159,.code du [.val,.val,.val,.val,.val] [] [(10,none),(11,some (true,4))] [(0,[0,1,2,3,4]),(1,[1,2,4,5,8,11]),(2,[1,2,4,5,8,11]),(3,[2,4,5,8,11]),(4,[2,5,8,11,13]),(5,[2,8,11,12,13]),(6,[1,2,4,5,8,11,14]),(7,[2,4,5,8,11]),(8,[2,4,8,11,12]),(9,[2,4,8,11,12]),(10,[1,2,4,5,8,11,14]),(11,[2,4,5,8,11]),(12,[2,4,5,8,11,12]),(13,[2,8,11,12])]),
 (160,.code eL [.val] [] [(2,none)] [(0,[0]),(1,[0])]),
 (161,.ext (EV)),
 (162,.code aA [.val,.val,.val] [] [(6,none),(7,some (true,5)),(8,none)] [(0,[0,1,2]),(1,[1,2,3,7]),(2,[7]),(3,[1,2,3,7]),(4,[1,2,3,7,9]),(5,[1,2,3,7,9,23,24,25]),(6,[1,2,3,7,9,23,24,25]),(7,[1,2,3,7,9,10,11,23,24,25]),(8,[1,2,3,7,9,11,23,24,25]),(9,[1,2,3,7,9,23,24,25]),(10,[3,7,9]),(1000005,[3,7,9])]),
 (163,.code gv [.val,.val] [] [(4,none)] [(0,[0,1]),(1,[0,1]),(2,[0]),(3,[0,1]),(4,[1]),(5,[1])]),
 (164,.code aI [.val] [] [(2,none)] [(0,[0]),(1,[0]),(2,[0,3]),(3,[0,3,7,8,9]),(4,[0,3,7,8,9]),(5,[0,3,5,7,8,9]),(6,[0,3,6,7,8,9]),(7,[0,6,7,8,9]),(8,[0,3,7,8,9]),(9,[3]),(1000003,[3])]),
 (165,.code eZ [.iop] [0] [(2,none)] [(0,[0]),(1,[0]),(2,[0]),(3,[0]),(4,[0]),(5,[0])]),
 (166,.code gI [.iop] [0] [(2,some (true,3))] [(0,[0]),(1,[0,2]),(2,[0,2,3]),(3,[0,2,3]),(4,[0,2,3]),(5,[0,2,3])]),
 (167,.ext (DI)),
 (168,.code gk [.val] [] [(2,none)] [(0,[0]),(1,[0])]),
 (169,.ext (Br)),
 (170,.ext (VG)),
 (171,.code gl [.val] [] [(2,none)] [(0,[0]),(1,[0]),(2,[0,3]),(3,[0]),(4,[0,3]),(5,[4]),(6,[4]),(7,[4])]),
 (172,.code eG [.val,.val] [] [(4,none)] [(0,[0,1]),(1,[0,1]),(2,[0]),(3,[0])]),
 (173,.code fP [.val,.val] [] [(4,none)] [(0,[0,1]),(1,[0,1]),(2,[0]),(3,[0])]),
 (174,.ext (Do)),
 (175,.code ga [.iop,.val] [0] [] [(0,[0,1]),(1,[0,4]),(2,[0,4,5]),(3,[0,4]),(4,[0,4,5])]),
 (176,.code di [.val,.val,.val] [] [(6,none)] [(0,[0,1,2]),(1,[0,1,2]),(2,[]),(3,[0,1,2])]),
 (177,.code gJ [.val] [] [(2,none)] [(0,[0]),(1,[0])]),
 (178,.code eY [.val] [] [(2,none)] [(0,[0]),(1,[0]),(2,[0])]),
 (179,.ext (Dt .zero)),
 (180,.code jq [.val] [] [(2,none)] [(0,[0]),(1,[0]),(2,[0]),(3,[0]),(4,[3]),(5,[3,4]),(6,[3,4]),(7,[3])])]
def E:A4:=⟨fun t=>NJ Ni t,H7 Fd⟩
def El (n:Nat):FD:=match H7 Fd n with
 | some d=>d
 | none => .ext fun _=>none
def GA (n:Nat):List (Nat × List Nat):=match H7 Fd n with
 | some d=>d.keep
 | none=>[]
theorem tysOk:DO Tryz.prog E:=Pq (l:=Ni) (fun _=>rfl) (by kernel_rfl)
abbrev FT (f:Nat):Prop:=Cm Tryz.prog E f (El f)
theorem Bc {f : Nat} {fn : Func} (c : Code) (hf : Tryz.prog.funcs[f]? = some fn) (hn : (fn.name == "runtime.NumGoroutine") = false := by kernel_rfl) (hb : fn.body = some c := by kernel_rfl) (h : Wl E fn c (El f).ms (El f).os (El f).rs = true := by kernel_rfl) (hd : El f = .code c (El f).ms (El f).os (El f).rs (El f).keep := by kernel_rfl) : FT f := by unfold FT; rw [hd]; exact LC hf hn hb h
theorem nh:FT 5:=Bc c5 Tryz.func5
theorem mi:FT 15:=Bc iK Tryz.func15
theorem lw:FT 16:=Bc mz Tryz.func16
theorem lf:FT 18:=Bc mS Tryz.func18
theorem kq:FT 19:=Bc mK Tryz.func19
theorem lM:FT 20:=Bc lL Tryz.func20
theorem mD:FT 21:=Bc jt Tryz.func21
theorem me:FT 22:=Bc gH Tryz.func22
theorem mn:FT 23:=Bc c23 Tryz.func23
theorem mG:FT 24:=Bc jY Tryz.func24
theorem lb:FT 27:=Bc fQ Tryz.func27
theorem li:FT 28:=Bc lk Tryz.func28
theorem ly:FT 29:=Bc mL Tryz.func29
theorem m9:FT 30:=Bc mZ Tryz.func30
theorem my:FT 33:=Bc nC Tryz.func33
theorem mT:FT 34:=Bc mU Tryz.func34
theorem mI:FT 40:=Bc eo Tryz.func40
theorem mV:FT 41:=Bc lq Tryz.func41
theorem mH:FT 42:=Bc dr Tryz.func42
theorem mP:Cm Tryz.prog E 43 (.sem [.io,.val] (G2 44 [.leaf,.leaf,.sl .own [.leaf]] [.rf .shr [.leaf]] Ez)):=DS.ok43
theorem m5:FT 44:=Bc nX Tryz.func44
theorem md:FT 45:=Bc lQ Tryz.func45
theorem m6:FT 48:=Bc mN Tryz.func48
theorem lz:FT 49:=Bc gU Tryz.func49
theorem lF:FT 50:=Bc eh Tryz.func50
theorem mh:FT 51:=Bc mA Tryz.func51
theorem mE:FT 52:=Bc fC Tryz.func52
theorem mt:FT 53:=Bc kX Tryz.func53
theorem lA:Cm Tryz.prog E 54 (.sem [.io,.val] (G2 55 [.leaf,.leaf,.sl .own [.leaf]] [] GB)):=DS.ok54
theorem mg:FT 55:=Bc nY Tryz.func55
theorem k8:FT 56:=Bc mj Tryz.func56
theorem lg:FT 57:=Bc fA Tryz.func57
theorem lj:FT 58:=Bc lS Tryz.func58
theorem lU:FT 59:=Bc k7 Tryz.func59
theorem mY:FT 62:=Bc lh Tryz.func62
theorem mq:FT 63:=Bc j9 Tryz.func63
theorem ky:FT 64:=Bc kf Tryz.func64
theorem ln:FT 65:=Bc kr Tryz.func65
theorem lG:FT 66:=Bc jj Tryz.func66
theorem mX:FT 67:=Bc iO Tryz.func67
theorem lH:FT 68:=Bc f8 Tryz.func68
theorem ll:FT 71:=Bc kv Tryz.func71
theorem nD:FT 72:=Bc jI Tryz.func72
theorem nG:FT 73:=Bc kK Tryz.func73
theorem lX:FT 77:=Bc j5 Tryz.func77
theorem lx:FT 78:=Bc kp Tryz.func78
theorem nJ:FT 79:=Bc k9 Tryz.func79
theorem lu:FT 80:=Bc jr Tryz.func80
theorem lV:FT 83:=Bc mQ Tryz.func83
theorem ku:FT 84:=Bc lZ Tryz.func84
theorem mC:FT 85:=Bc iB Tryz.func85
theorem mF:FT 86:=Bc kZ Tryz.func86
theorem lK:FT 87:=Bc lI Tryz.func87
theorem mW:FT 88:=Bc iw Tryz.func88
theorem mB:FT 89:=Bc mJ Tryz.func89
theorem m8:FT 90:=Bc lr Tryz.func90
theorem lv:FT 91:=Bc lN Tryz.func91
theorem lJ:FT 92:=Bc kz Tryz.func92
theorem m7:FT 93:=Bc mu Tryz.func93
theorem ld:FT 94:=Bc kC Tryz.func94
theorem nI:FT 95:=Bc nA Tryz.func95
theorem lO:FT 96:=Bc mM Tryz.func96
theorem ma:FT 97:=Bc ke Tryz.func97
theorem nH:FT 99:=Bc k6 Tryz.func99
theorem kN:FT 102:=Bc gi Tryz.func102
theorem ib:FT 103:=Bc fy Tryz.func103
theorem im:FT 104:=Bc VU Tryz.func104
theorem iS:FT 105:=Bc fY Tryz.func105
theorem jf:FT 108:=Bc Vk Tryz.func108
theorem ic:FT 109:=Bc gp Tryz.func109
theorem kF:FT 111:=Bc gw Tryz.func111
theorem kH:FT 112:=Bc gB Tryz.func112
theorem kD:FT 113:=Bc eA Tryz.func113
theorem iD:FT 114:=Bc gW Tryz.func114
theorem js:FT 115:=Bc gf Tryz.func115
theorem jL:FT 116:=Bc Vz Tryz.func116
theorem kh:FT 117:=Bc fV Tryz.func117
theorem kJ:FT 118:=Bc gO Tryz.func118
theorem jS:FT 119:=Bc fj Tryz.func119
theorem jM:FT 121:=Bc dp Tryz.func121
theorem jG:FT 122:=Bc av Tryz.func122
theorem jd:FT 123:=Bc Y3 Tryz.func123
theorem ja:FT 124:=Bc gL Tryz.func124
theorem ii:FT 125:=Bc Zw Tryz.func125
theorem kU:FT 126:=Bc aG Tryz.func126
theorem iv:FT 127:=Bc dj Tryz.func127
theorem jT:FT 128:=Bc Vg Tryz.func128
theorem je:FT 130:=Bc Zb Tryz.func130
theorem jK:FT 131:=Bc Zf Tryz.func131
theorem jJ:FT 132:=Bc gh Tryz.func132
theorem kA:FT 133:=Bc dZ Tryz.func133
theorem kR:FT 134:=Bc fF Tryz.func134
theorem iz:FT 135:=Bc aD Tryz.func135
theorem iP:FT 136:=Bc fO Tryz.func136
theorem iV:FT 137:=Bc Y7 Tryz.func137
theorem kG:FT 139:=Bc fZ Tryz.func139
theorem kY:FT 140:=Bc d9 Tryz.func140
theorem kM:FT 141:=Bc dg Tryz.func141
theorem jz:FT 142:=Bc f9 Tryz.func142
theorem jD:FT 143:=Bc fN Tryz.func143
theorem jg:FT 144:=Bc eM Tryz.func144
theorem kc:FT 145:=Bc eW Tryz.func145
theorem iQ:FT 146:=Bc ew Tryz.func146
theorem ji:FT 147:=Bc fK Tryz.func147
theorem jA:FT 148:=Bc fM Tryz.func148
theorem jB:FT 149:=Bc eV Tryz.func149
theorem ip:FT 150:=Bc Y8 Tryz.func150
theorem ki:FT 151:=Bc aY Tryz.func151
theorem jw:Cm Tryz.prog E 152 (.ext (Gh)):=Rr Tryz.func152 (by kernel_rfl) (by kernel_rfl) (by kernel_rfl) (by kernel_rfl)
theorem jy:FT 153:=Bc fg Tryz.func153
theorem kS:FT 154:=Bc dy Tryz.func154
theorem jp:FT 155:=Bc en Tryz.func155
theorem ia:FT 156:=Bc gV Tryz.func156
theorem jP:FT 157:=Bc gb Tryz.func157
theorem j4:FT 158:=Bc eS Tryz.func158
theorem iJ:FT 159:=Bc du Tryz.func159
theorem jo:FT 160:=Bc eL Tryz.func160
theorem aO:Cm Tryz.prog E 161 (.ext (EV)):=DC.signOk
theorem kI:FT 162:=Bc aA Tryz.func162
theorem iW:FT 163:=Bc gv Tryz.func163
theorem iL:FT 164:=Bc aI Tryz.func164
theorem il:FT 165:=Bc eZ Tryz.func165
theorem iG:FT 166:=Bc gI Tryz.func166
theorem kg:Cm Tryz.prog E 167 (.ext (DI)):=Mk Tryz.func167 (by kernel_rfl) (by kernel_rfl) (by kernel_rfl) (by kernel_rfl)
theorem kV:FT 168:=Bc gk Tryz.func168
theorem T2:Cm Tryz.prog E 169 (.ext (Br)):=FO Tryz.func169 (by kernel_rfl) (by kernel_rfl) (by kernel_rfl) (by kernel_rfl)
theorem aQ:Cm Tryz.prog E 170 (.ext (VG)):=DA.absOk
theorem ig:FT 171:=Bc gl Tryz.func171
theorem kO:FT 172:=Bc eG Tryz.func172
theorem jV:FT 173:=Bc fP Tryz.func173
theorem Uz:Cm Tryz.prog E 174 (.ext (Do)):=IR Tryz.func174 (by kernel_rfl) (by kernel_rfl) (by kernel_rfl) (by kernel_rfl)
theorem iX:FT 175:=Bc ga Tryz.func175
theorem jU:FT 176:=Bc di Tryz.func176
theorem j7:FT 177:=Bc gJ Tryz.func177
theorem kP:FT 178:=Bc eY Tryz.func178
theorem iy:Cm Tryz.prog E 179 (.ext (Dt .zero)):=Ku Tryz.func179 (by kernel_rfl) (by kernel_rfl) (by kernel_rfl) (by kernel_rfl)
theorem iq:FT 180:=Bc jq Tryz.func180
theorem Pi:Ks Tryz.prog E Fd:=.cons nh (.cons mi (.cons lw (.cons lf (.cons kq (.cons lM (.cons mD (.cons me (.cons mn (.cons mG (.cons lb (.cons li (.cons ly (.cons m9 (.cons my (.cons mT (.cons mI (.cons mV (.cons mH (.cons mP (.cons m5 (.cons md (.cons m6 (.cons lz (.cons lF (.cons mh (.cons mE (.cons mt (.cons lA (.cons mg (.cons k8 (.cons lg (.cons lj (.cons lU (.cons mY (.cons mq (.cons ky (.cons ln (.cons lG (.cons mX (.cons lH (.cons ll (.cons nD (.cons nG (.cons lX (.cons lx (.cons nJ (.cons lu (.cons lV (.cons ku (.cons mC (.cons mF (.cons lK (.cons mW (.cons mB (.cons m8 (.cons lv (.cons lJ (.cons m7 (.cons ld (.cons nI (.cons lO (.cons ma (.cons nH (.cons kN (.cons ib (.cons im (.cons iS (.cons jf (.cons ic (.cons kF (.cons kH (.cons kD (.cons iD (.cons js (.cons jL (.cons kh (.cons kJ (.cons jS (.cons jM (.cons jG (.cons jd (.cons ja (.cons ii (.cons kU (.cons iv (.cons jT (.cons je (.cons jK (.cons jJ (.cons kA (.cons kR (.cons iz (.cons iP (.cons iV (.cons kG (.cons kY (.cons kM (.cons jz (.cons jD (.cons jg (.cons kc (.cons iQ (.cons ji (.cons jA (.cons jB (.cons ip (.cons ki (.cons jw (.cons jy (.cons kS (.cons jp (.cons ia (.cons jP (.cons j4 (.cons iJ (.cons jo (.cons aO (.cons kI (.cons iW (.cons iL (.cons il (.cons iG (.cons kg (.cons kV (.cons T2 (.cons aQ (.cons ig (.cons kO (.cons jV (.cons Uz (.cons iX (.cons jU (.cons j7 (.cons kP (.cons iy (.cons iq (.nil)))))))))))))))))))))))))))))))))))))))))))))))))))))))))))))))))))))))))))))))))))))))))))))))))))))))))))))))))))))))))))))))))))))))))
theorem fnOk:∀ f fd,E.fn f=some fd→Cm Tryz.prog E f fd:=PU (l:=Fd) (fun _=>rfl) Pi
abbrev Bh {V X:Type} (no:Nat) (P:List Ae) (S:By V) (A:Aa X) (F:Nat→V→Option X):Prop:=∀ n v x,F n v=some x→Ak E n no (Hk P (S.pk v))=some (A.enc x)
theorem Bi {V X:Type} {no:Nat} {P:List Ae} {S:By V} {A:Aa X} {F:Nat→V→Option X} (c:Code) (O:Nat→BJ) (bs:List Code:=[]) (ha:∀ n,RU (O n) E (Ak E n) n (GA no) bs:=by intro _;exact .nil) (hf:E.fn no=some (.code c (El no).ms (El no).os (El no).rs (GA no)):=by kernel_rfl) (hO:∀ n,(O n).CfOk (Ak E n):=by intro n;exact Ld _ _ n) (hb:Co c=bs:=by kernel_rfl) (h0:∀ v,F 0 v=none:=by intro _;rfl) (hs:∀ n v,F (n+1) v=ko E (O n) no (Hk P (S.pk v)) A.dec:=by intro _ _;kernel_rfl):Bh no P S A F:=SY O hf hO (fun n=>OH hb (ha n)) h0 hs
abbrev E0 (no:Nat) (c:Code) (i n:Nat) (O:BJ):Prop:=KC O E (Ak E n) n (GA no) (.loop (Ac c i))
theorem FC {V X:Type} {no i:Nat} {c:Code} {O:Nat→BJ} (P:AS) (S:By V) (A:D7 X) (L:Nat→Nat→V→Option X) (bs:List Code:=[]) (ha:∀ n,RU (O n) E (Ak E n) n (GA no) bs:=by intro _;exact .nil) (hO:∀ n,(O n).CfOk (Ak E n):=by intro n;exact Ld _ _ n) (hb:Co (Ac c i)=bs:=by kernel_rfl) (h0:∀ n v,L n 0 v=none:=by intro _ _;rfl)
  (hs:∀ n m v,L n (m+1) v=Gu E (O n) (GA no) (Ac c i) (Yl P (S.pk v)) (fun ex σ'=>match ex with
    | .normal=>bd (QK P (Go.Desk.settle (CJ (GA no) (Cr (Ac c i))) σ')) fun ls=>bd (S.up ls) (L n m)
    | .exit id=>A.dec (.exit id) (Go.Desk.settle (CJ (GA no) (Lq (Ac c i))) σ')
    | .ret=>A.dec .ret (Go.Desk.settle (CJ (GA no) (Lq (Ac c i))) σ')):=by intro _ _ _;kernel_rfl)
  (hW:∀ n (β:Type) (σ:AS) (k:Ex→AS→Option β),(O n).lp (dY (Ac c i)) σ k=bd (QK P σ) fun ls=>bd (S.up ls) fun v=>bd (L n n v) fun x=>A.out x k:=by intro _ _ _ _;kernel_rfl):∀ n,E0 no c i n (O n):=fun n=>c9 P S A (L n) (hO n) (OH hb (ha n)) (h0 n) (hs n) (hW n)
end Go.Proofs.YtdobhipbgpiceaaGreat.D
end
noncomputable section
namespace Go.Proofs.YtdobhipbgpiceaaGreat.D
open Go Go.Desk
abbrev nS:=Nat × List T × Nat × List T × Nat × List T × Nat × List T × Nat × List T × Nat × List T × Int × Int × Int × Nat × List T × Int × Int × Nat × List T × Int × Int
abbrev nb:=Int × Bool × Nat × List T × Nat × Nat × Nat × Nat × Nat × Nat × Nat × Nat × Nat × Nat × Nat × Nat × Nat × Nat × List T × Nat × List T × Int × Int
abbrev nN:=Int × Int × Int × Nat × List T × Nat × List T × Nat × List T × Int × Int × Nat × List T × Nat × List T × Int × Int × Nat × List T × Int × Int
abbrev nQ:=Nat × List T × Int × Nat × List T × Nat × List T × Nat × List T × Nat × Nat × Nat × Nat × List T × Int × Int × Nat × List T × Int × Int
abbrev kt:=Nat × List T × Nat × List T × Nat × List T × Nat × List T × Nat × List T × Nat × List T × Int × Int × Int × Nat × List T × Int × Int
abbrev nM:=Nat × List T × Nat × List T × Nat × Nat × Nat × Nat × Nat × Nat × Nat × Nat × Nat × Nat × Nat × List T × Nat × List T × Int × Int
abbrev nW:=Nat × List T × Nat × Nat × Nat × Nat × List T × Nat × Nat × Nat × Nat × List T × Nat × List T × Nat × List T × Int × Nat × Int
abbrev nZ:=Nat × Nat × Nat × Nat × Nat × Int × Bool × Nat × List T × Nat × Nat × Nat × Nat × Nat × Nat × Nat × Nat × Nat × List T × Int
abbrev nL:=Nat × List T × Nat × Nat × Nat × Nat × List T × Nat × Nat × Nat × Nat × List T × Nat × List T × Nat × List T × Int × Int
abbrev nB:=Nat × List T × Nat × Nat × Nat × Nat × List T × Nat × Nat × Nat × Nat × List T × Nat × List T × Nat × List T × Int × Nat
abbrev jO:=Int × Nat × List T × Nat × List T × Nat × List T × Nat × List T × Nat × List T × Nat × List T × Bool × Int × Int × Int
abbrev bt:=Nat × List T × Nat × List T × Nat × List T × Nat × List T × Nat × List T × Nat × List T × Nat × List T × Int × Int
abbrev jk:=Nat × List T × Nat × Nat × Nat × Nat × List T × Nat × Nat × Nat × Nat × List T × Nat × List T × Nat × List T × Int
abbrev kQ:=Int × Int × Nat × List T × Nat × List T × Nat × List T × Nat × List T × Nat × List T × Nat × List T × Int × Int
abbrev jQ:=Nat × List T × Nat × List T × Nat × Nat × Nat × Nat × Nat × Nat × Nat × Nat × Nat × Nat × Nat × List T × Int
abbrev eI:=Int × Nat × List T × Nat × List T × Nat × List T × Nat × List T × Nat × List T × Nat × List T × Bool × Int
abbrev kL:=Nat × List T × Nat × List T × Int × Int × Nat × List T × Int × Int × Nat × List T × Int × Int × Int × Int
abbrev eX:=Nat × List T × Nat × List T × Nat × List T × Nat × List T × Nat × List T × Nat × List T × Int × Int
abbrev fW:=Int × Int × Nat × List T × Nat × List T × Nat × List T × Nat × List T × Nat × List T × Nat × List T
abbrev gX:=Nat × Nat × Nat × Nat × List T × Nat × Nat × Nat × Nat × List T × Nat × List T × Nat × List T
abbrev ff:=Nat × List T × Int × Int × Nat × List T × Nat × List T × Nat × List T × Nat × List T × Int
abbrev cN:=Nat × List T × Int × Nat × List T × Nat × List T × Nat × List T × Nat × List T × Int × Int
abbrev bQ:=Int × Int × Int × Nat × List T × Nat × List T × Nat × List T × Nat × List T × Int × Int
abbrev Z3:=Nat × List T × Nat × List T × Nat × List T × Nat × List T × Nat × List T × Nat × List T
abbrev Zy:=Nat × List T × Int × Int × Nat × List T × Nat × List T × Nat × List T × Nat × List T
abbrev cK:=Nat × List T × Nat × List T × Nat × List T × Nat × List T × Nat × List T × Int × Int
abbrev fJ:=Nat × Nat × Nat × Nat × Nat × Int × Bool × Nat × Nat × Nat × Nat × Nat × List T
abbrev ek:=Nat × Nat × Nat × Nat × List T × Nat × Nat × Nat × Nat × List T × Nat × List T
abbrev iR:=Nat × List T × Nat × List T × Bool × Nat × List T × Nat × List T × Int × Int
abbrev j6:=Int × Nat × List T × Nat × List T × Nat × List T × Nat × List T × Int × Int
abbrev Yo:=Nat × Nat × Nat × Nat × Nat × Nat × Nat × Nat × Nat × Nat × Nat × List T
abbrev dh:=Nat × Nat × Nat × Nat × Nat × Int × Bool × Nat × Nat × Nat × Nat × Nat
abbrev j8:=Nat × List T × Nat × List T × Nat × List T × Nat × List T × Int × Int
abbrev cw:=Nat × List T × Nat × List T × Int × Int × Nat × List T × Int × Int
abbrev Zn:=Nat × List T × Nat × List T × Bool × Nat × List T × Nat × List T
abbrev gC:=Nat × List T × Nat × List T × Nat × List T × Nat × List T × Int
abbrev gG:=Nat × List T × Nat × Nat × List T × Nat × List T × Int × Int
abbrev Yt:=Nat × Nat × Nat × Nat × Nat × Nat × Nat × Nat × Nat × List T
abbrev gZ:=Nat × List T × Nat × List T × Int × Nat × List T × Int × Int
abbrev dq:=Nat × Nat × Nat × Nat × Nat × Nat × List T × Nat × List T
abbrev Vd:=Nat × List T × Nat × List T × Nat × List T × Nat × List T
abbrev aB:=Nat × Nat × Nat × Nat × Nat × Nat × List T × Int × Int
abbrev Tq:=Nat × List T × Nat × List T × Nat × List T × Int × Int
abbrev fw:=Int × Int × Nat × List T × Nat × List T × Nat × List T
abbrev cp:=Nat × List T × Int × Nat × Bool × Bool × Nat × List T
abbrev jZ:=Nat × List T × Int × Int × Int × Nat × List T × Bool
abbrev ZU:=Nat × List T × Nat × Nat × Nat × Nat × List T × Bool
abbrev et:=Int × Int × Nat × List T × Nat × List T × Int × Int
abbrev Zu:=Nat × List T × Nat × Nat × Nat × Nat × Nat × Bool
abbrev fL:=Int × Nat × List T × Int × Int × Nat × List T
abbrev ir:=Nat × List T × Int × Int × Nat × List T × Int
abbrev cL:=Nat × List T × Nat × List T × Int × Int × Int
abbrev iH:=Nat × List T × Nat × Nat × List T × Int × Int
abbrev er:=Nat × Nat × Nat × Nat × List T × Nat × List T
abbrev dz:=Nat × Nat × Nat × Nat × List T × Int × Int
abbrev iM:=Int × Int × Nat × List T × Int × Int × Int
abbrev ju:=Nat × Nat × Nat × Nat × Nat × Nat × List T
abbrev fR:=Nat × List T × Nat × List T × Nat × List T
abbrev eN:=Nat × List T × Nat × Nat × Nat × Nat × Nat
abbrev YK:=Nat × List T × Int × Int × Nat × List T
abbrev NC:=Nat × List T × Nat × List T × Int × Int
abbrev dw:=Nat × List T × Nat × Nat × List T × Int
abbrev aR:=Nat × List T × Nat × Nat × Nat × Nat
abbrev SU:=Nat × List T × Nat × List T × Bool
abbrev TC:=Nat × List T × Nat × List T × Int
abbrev gP:=Bool × Nat × List T × Int × Int
abbrev jC:=Nat × List T × Bool × Int × Int
abbrev Z2:=Int × Nat × List T × Int × Int
abbrev cD:=Nat × List T × Int × Int × Int
abbrev SP:=Nat × Nat × List T × Int × Int
abbrev jN:=Bool × Nat × Nat × Nat × Nat
abbrev Cf:=Nat × List T × Nat × List T
abbrev Xs:=Nat × Nat × Nat × Nat × Nat
abbrev KD:=Nat × List T × Int × Int
abbrev Uv:=Int × Int × Nat × List T
abbrev nj:Go.Desk.V:=⟨false,[.rf .shr [.sl .shr [.leaf,.leaf,.sl .shr [.leaf]],.sl .shr [.sl .shr [.leaf,.leaf,.sl .shr [.leaf]],.leaf,.leaf,.leaf,.leaf]]],[.ref [.lst 0 [],.lst 0 []]]⟩
abbrev Y2:Go.Desk.V:=⟨true,[.sl .own [.leaf,.leaf,.sl .own [.leaf]],.sl .own [.sl .own [.leaf,.leaf,.sl .own [.leaf]],.leaf,.leaf,.leaf,.leaf]],[.lst 0 [],.lst 0 []]⟩
abbrev ne:Go.Desk.V:=⟨true,[.sl .shr [.leaf,.leaf,.sl .shr [.leaf]],.sl .shr [.sl .shr [.leaf,.leaf,.sl .shr [.leaf]],.leaf,.leaf,.leaf,.leaf]],[.lst 0 [],.lst 0 []]⟩
abbrev gz:Go.Desk.V:=⟨true,[.leaf,.leaf,.leaf,.leaf,.leaf],[.flt .f32 0,.flt .f32 0,.flt .f32 0,.flt .f32 0,.flt .f32 0]⟩
abbrev Uj:Go.Desk.V:=⟨false,[.rf .own [.sl .shr [.leaf],.leaf,.leaf]],[.ref [.lst 0 [],.int .i64 0,.int .u64 0]]⟩
abbrev nf:Go.Desk.V:=⟨false,[.rf .shr [.leaf,.leaf,.sl .shr [.leaf]]],[.ref [.int .i64 0,.int .i64 0,.lst 0 []]]⟩
abbrev j3:Go.Desk.V:=⟨true,[.leaf,.leaf,.leaf,.leaf],[.flt .f32 0,.flt .f32 0,.flt .f32 0,.flt .f32 0]⟩
abbrev nd:Go.Desk.V:=⟨true,[.leaf,.leaf,.sl .shr [.leaf]],[.int .i64 0,.int .i64 0,.lst 0 []]⟩
abbrev ni:Go.Desk.V:=⟨false,[.sl .shr [.sl .shr [.leaf],.leaf,.leaf,.leaf,.leaf]],[.lst 0 []]⟩
abbrev mR:Go.Desk.V:=⟨false,[.sl .own [.leaf,.leaf,.sl .own [.leaf]]],[.lst 0 []]⟩
abbrev lY:Go.Desk.V:=⟨false,[.sl .shr [.leaf,.leaf,.sl .shr [.leaf]]],[.lst 0 []]⟩
abbrev bX:Go.Desk.V:=⟨false,[.sl .own [.sl .own [.leaf]]],[.lst 0 []]⟩
abbrev kw:Go.Desk.V:=⟨false,[.sl .shr [.leaf]],[.lst 0 []]⟩
abbrev DZ:Go.Desk.V:=⟨false,[.sl .own [.leaf]],[.lst 0 []]⟩
abbrev CN:Go.Desk.V:=⟨false,[.leaf],[.bool false]⟩
abbrev Ns:Go.Desk.V:=⟨false,[.leaf],[.int .i64 0]⟩
abbrev Fh:Go.Desk.V:=⟨false,[.leaf],[.flt .f32 0]⟩
abbrev WE:Go.Desk.V:=⟨false,[.leaf],[.flt .f64 0]⟩
abbrev DT:Ae:=⟨.val,kw⟩
abbrev CV:Ae:=⟨.val,Ns⟩
abbrev Cx:Ae:=⟨.val,Fh⟩
abbrev Uh:Ae:=⟨.val,lY⟩
abbrev U3:Ae:=⟨.val,CN⟩
abbrev Yg:Ae:=⟨.val,WE⟩
abbrev Kr:Ae:=⟨.iop,Uj⟩
abbrev Zv:Ae:=⟨.val,nd⟩
abbrev P8:Ae:=⟨.val,ne⟩
abbrev Z9:Ae:=⟨.val,gz⟩
abbrev cR:Ae:=⟨.val,j3⟩
abbrev dt:Ae:=⟨.val,ni⟩
abbrev gN:Ae:=⟨.val,nf⟩
abbrev bx:Ae:=⟨.val,nj⟩
abbrev Sz:AA:=.val false [.rf .shr [.sl .shr [.leaf,.leaf,.sl .shr [.leaf]],.sl .shr [.sl .shr [.leaf,.leaf,.sl .shr [.leaf]],.leaf,.leaf,.leaf,.leaf]]] [.ref [.lst 0 [],.lst 0 []]] [] 0
abbrev DR:AA:=.box [.sl .own [.leaf,.leaf,.sl .own [.leaf]],.sl .own [.sl .own [.leaf,.leaf,.sl .own [.leaf]],.leaf,.leaf,.leaf,.leaf]] [.lst 0 [],.lst 0 []] [] 0
abbrev Ig:AA:=.box [.sl .shr [.leaf,.leaf,.sl .shr [.leaf]],.sl .shr [.sl .shr [.leaf,.leaf,.sl .shr [.leaf]],.leaf,.leaf,.leaf,.leaf]] [.lst 0 [],.lst 0 []] [] 0
abbrev Ss:AA:=.box [.leaf,.leaf,.leaf,.leaf,.leaf] [.flt .f32 0,.flt .f32 0,.flt .f32 0,.flt .f32 0,.flt .f32 0] [] 0
abbrev cu:AA:=.val false [.sl .shr [.sl .shr [.leaf,.leaf,.sl .shr [.leaf]],.leaf,.leaf,.leaf,.leaf]] [.lst 0 []] [] 0
abbrev XM:AA:=.box [.leaf,.leaf,.leaf,.sl .shr [.leaf]] [.flt .f32 0,.flt .f32 0,.flt .f32 0,.lst 0 []] [] 0
abbrev Yb:AA:=.box [.leaf,.leaf,.leaf,.sl .own [.leaf]] [.flt .f32 0,.flt .f32 0,.flt .f32 0,.lst 0 []] [] 0
abbrev UL:AA:=.box [.leaf,.leaf,.leaf,.leaf] [.flt .f32 0,.flt .f32 0,.flt .f32 0,.flt .f32 0] [] 0
abbrev Qe:AA:=.val false [.sl .shr [.sl .shr [.leaf],.leaf,.leaf,.leaf,.leaf]] [.lst 0 []] [] 0
abbrev Te:AA:=.box [.sl .shr [.leaf],.leaf,.leaf] [.lst 0 [],.int .i64 0,.int .u64 0] [] 0
abbrev XT:AA:=.val false [.sl .own [.leaf,.leaf,.sl .own [.leaf]]] [.lst 0 []] [] 0
abbrev Hu:AA:=.val false [.sl .shr [.leaf,.leaf,.sl .shr [.leaf]]] [.lst 0 []] [] 0
abbrev VN:AA:=.val false [.sl .own [.sl .own [.leaf]]] [.lst 0 []] [] 0
abbrev A3:AA:=.val false [.sl .own [.leaf]] [.lst 0 []] [] 0
abbrev DY:AA:=.val false [.sl .shr [.leaf]] [.lst 0 []] [] 0
abbrev AU:AA:=.val false [.leaf] [.int .i64 0] [] 0
abbrev Jm:AA:=.val false [.leaf] [.bool false] [] 0
abbrev Px:AA:=.val false [.leaf] [.flt .f32 0] [] 0
abbrev Nq:AA:=.val false [.leaf] [.flt .f64 0] [] 0
set_option linter.unusedVariables false
def x152.w:A7 E:=Fs.w 152 (by kernel_rfl)
def x167.w:A7 E:=D1.w 167 (by kernel_rfl)
def x161.w:A7 E:=FM.w 161 (by kernel_rfl)
def x170.w:A7 E:=Qo.w 170 (by kernel_rfl)
def x43.w:A7 E:=FU.w 3 44 [.leaf,.leaf,.sl .own [.leaf]] (by decide) (by decide) (by decide) (by decide) 43 (by kernel_rfl)
def x169.w:A7 E:=Av.w 169 (by kernel_rfl)
def x179.w:A7 E:=C2.w 179 (by kernel_rfl)
def x174.w:A7 E:=Bu.w 174 (by kernel_rfl)
def x54.w:A7 E:=Gq.w 3 55 [.leaf,.leaf,.sl .own [.leaf]] (by decide) (by decide) (by decide) (by decide) 54 (by kernel_rfl)
def f18:Nat→Nat→List T→Nat→List T→Option (Bool)
 | 0,_,_,_,_=>none
 | n+1,n1,l2,n3,l4 =>
   br (decide ((n1:Int)>(1048576:Int))) (
    some true) (
    some (decide ((n3:Int)>(1048576:Int))))
def Bl:By (Cf) where
 pk:=fun (a0,a1,a2,a3)=>[.lst a0 a1,.lst a2 a3]
 up:=fun ls=>match ls with
  | [.lst a0 a1,.lst a2 a3]=>some (a0,a1,a2,a3)
  | _=>none
def C3:By (Bool) where
 pk:=fun v=>[.bool v]
 up:=fun ls=>match ls with
  | [.bool a0]=>some a0
  | _=>none
def f18.P:List Ae:=[DT,DT]
def f18.A:Aa (Bool):=.one ⟨[CN],[none,none]⟩ C3
def f18.F (n:Nat) (v:Cf):=let (a,b,c,d):=v;f18 n a b c d
def f18.O (n:Nat):BJ:=AK (E:=E) [] [] n
theorem f18.ok:Bh 18 f18.P Bl f18.A f18.F:=Bi mS f18.O
def f18.w:A7 E:=BQ 18 f18.P Bl f18.A f18.F f18.ok
def f48:Nat→Nat→List T→Option (KD)
 | 0,_,_=>none
 | n+1,n1,l2 =>
   some (n1,l2,(0:Int),(0:Int))
def Bg:By (Nat × List T) where
 pk:=fun (a0,a1)=>[.lst a0 a1]
 up:=fun ls=>match ls with
  | [.lst a0 a1]=>some (a0,a1)
  | _=>none
def B5:By (KD) where
 pk:=fun (a0,a1,a2,a3)=>[.lst a0 a1,.int a2,.int a3]
 up:=fun ls=>match ls with
  | [.lst a0 a1,.int a2,.int a3]=>some (a0,a1,a2,a3)
  | _=>none
def f48.P:List Ae:=[DT]
def f48.A:Aa (KD):=.one ⟨[Uj],[none]⟩ B5
def f48.F (n:Nat) (v:Nat × List T):=f48 n v.1 v.2
def f48.O (n:Nat):BJ:=AK (E:=E) [] [] n
theorem f48.ok:Bh 48 f48.P Bg f48.A f48.F:=Bi mN f48.O
def f48.w:A7 E:=BQ 48 f48.P Bg f48.A f48.F f48.ok
def f111:Nat→Nat→List T→Int→Int→Option (Z2)
 | 0,_,_,_,_=>none
 | n+1,n1,l2,i3,i4 =>
   br (decide (i3<(n1:Int))) (
    gd ((decide ((0≤i3)∧(i3<(n1:Int))))&&(AI [(.int .u8)] l2 (Int.toNat i3))) (
    let i5:=(IntKind.i64.wrap (Ed l2 (Int.toNat i3)))
    let i6:=(IntKind.i64.wrap (i3+(1:Int)))
    let i7:=(IntKind.u64.wrap ((IntKind.u64.wrap ((IntKind.u64.wrap (i4 * (6364136223846793005:Int)))+(IntKind.u64.wrap i5)))+(1442695040888963407:Int)))
    br (decide (i6≤(n1:Int))) (
     some (i5,n1,l2,i6,i7)) (
     some ((IntKind.i64.wrap (intBits BinOp.and .u64 (Int.fdiv i7 (1099511627776:Int)) (255:Int))),n1,l2,i6,i7)))) (
    let i8:=(IntKind.i64.wrap (i3+(1:Int)))
    let i9:=(IntKind.u64.wrap ((IntKind.u64.wrap ((IntKind.u64.wrap (i4 * (6364136223846793005:Int)))+(0:Int)))+(1442695040888963407:Int)))
    br (decide (i8≤(n1:Int))) (
     some ((0:Int),n1,l2,i8,i9)) (
     some ((IntKind.i64.wrap (intBits BinOp.and .u64 (Int.fdiv i9 (1099511627776:Int)) (255:Int))),n1,l2,i8,i9)))
def W4:By (Z2) where
 pk:=fun (a0,a1,a2,a3,a4)=>[.int a0,.lst a1 a2,.int a3,.int a4]
 up:=fun ls=>match ls with
  | [.int a0,.lst a1 a2,.int a3,.int a4]=>some (a0,a1,a2,a3,a4)
  | _=>none
def f111.P:List Ae:=[Kr]
def f111.A:Aa (Z2):=.one ⟨[Ns],[some Uj]⟩ W4
def f111.F (n:Nat) (v:KD):=let (a,b,c,d):=v;f111 n a b c d
def f111.O (n:Nat):BJ:=AK (E:=E) [] [] n
theorem f111.ok:Bh 111 f111.P B5 f111.A f111.F:=Bi gw f111.O
def f111.w:A7 E:=BQ 111 f111.P B5 f111.A f111.F f111.ok
def f83:Nat→Nat→List T→Int→Int→Int→Option (Z2)
 | 0,_,_,_,_,_=>none
 | n+1,n1,l2,i3,i4,i5 =>
   br (decide (i5≤(1:Int))) (
    some ((0:Int),n1,l2,i3,i4)) (
    bd (f111 n n1 l2 i3 i4) fun r6 =>
    let i7:=r6.1
    let n8:=r6.2.1
    let l9:=r6.2.2.1
    let i10:=r6.2.2.2.1
    let i11:=r6.2.2.2.2
    br (decide (i5>(200:Int))) (
     bd (f111 n n8 l9 i10 i11) fun r12 =>
     let i13:=r12.1
     let n14:=r12.2.1
     let l15:=r12.2.2.1
     let i16:=r12.2.2.2.1
     let i17:=r12.2.2.2.2
     let i18:=(IntKind.i64.wrap ((IntKind.i64.wrap (i7 * (256:Int)))+i13))
     gd (!(decide (i5=(0:Int)))) (
     some ((Int.tmod i18 i5),n14,l15,i16,i17))) (
     gd (!(decide (i5=(0:Int)))) (
     some ((Int.tmod i7 i5),n8,l9,i10,i11))))
def Jw:By (cD) where
 pk:=fun (a0,a1,a2,a3,a4)=>[.lst a0 a1,.int a2,.int a3,.int a4]
 up:=fun ls=>match ls with
  | [.lst a0 a1,.int a2,.int a3,.int a4]=>some (a0,a1,a2,a3,a4)
  | _=>none
def f83.P:List Ae:=[Kr,CV]
def f83.A:Aa (Z2):=.one ⟨[Ns],[some Uj,none]⟩ W4
def f83.F (n:Nat) (v:cD):=let (a,b,c,d,e):=v;f83 n a b c d e
def f83.O (n:Nat):BJ:=AK (E:=E) [f111.w] [] n
theorem f83.ok:Bh 83 f83.P Jw f83.A f83.F:=Bi mQ f83.O
def f83.w:A7 E:=BQ 83 f83.P Jw f83.A f83.F f83.ok
def f84:Nat→Nat→List T→Int→Int→Int→Option (gP)
 | 0,_,_,_,_,_=>none
 | n+1,n1,l2,i3,i4,i5 =>
   bd (f83 n n1 l2 i3 i4 i5) fun r6 =>
   let i7:=r6.1
   let n8:=r6.2.1
   let l9:=r6.2.2.1
   let i10:=r6.2.2.2.1
   let i11:=r6.2.2.2.2
   some ((i7==(0:Int)),n8,l9,i10,i11)
def bk:By (gP) where
 pk:=fun (a0,a1,a2,a3,a4)=>[.bool a0,.lst a1 a2,.int a3,.int a4]
 up:=fun ls=>match ls with
  | [.bool a0,.lst a1 a2,.int a3,.int a4]=>some (a0,a1,a2,a3,a4)
  | _=>none
def f84.P:List Ae:=[Kr,CV]
def f84.A:Aa (gP):=.one ⟨[CN],[some Uj,none]⟩ bk
def f84.F (n:Nat) (v:cD):=let (a,b,c,d,e):=v;f84 n a b c d e
def f84.O (n:Nat):BJ:=AK (E:=E) [f83.w] [] n
theorem f84.ok:Bh 84 f84.P Jw f84.A f84.F:=Bi lZ f84.O
def f84.w:A7 E:=BQ 84 f84.P Jw f84.A f84.F f84.ok
def f114:Nat→Nat→List T→Int→Int→Option (SP)
 | 0,_,_,_,_=>none
 | n+1,n1,l2,i3,i4 =>
   bd (f83 n n1 l2 i3 i4 (129:Int)) fun r5 =>
   let i6:=r5.1
   let n7:=r5.2.1
   let l8:=r5.2.2.1
   let i9:=r5.2.2.2.1
   let i10:=r5.2.2.2.2
   let i11:=(IntKind.i64.wrap (i6 - (64:Int)))
   bd (f84 n n7 l8 i9 i10 (4:Int)) fun r12 =>
   let b13:=r12.1
   let n14:=r12.2.1
   let l15:=r12.2.2.1
   let i16:=r12.2.2.2.1
   let i17:=r12.2.2.2.2
   br b13 (
    some ((fdiv .f32 (FloatKind.nearest .f32 i11) 1088421888),n14,l15,i16,i17)) (
    some ((fdiv .f32 (FloatKind.nearest .f32 i11) 1098907648),n14,l15,i16,i17))
def Nx:By (SP) where
 pk:=fun (a0,a1,a2,a3,a4)=>[.flt a0,.lst a1 a2,.int a3,.int a4]
 up:=fun ls=>match ls with
  | [.flt a0,.lst a1 a2,.int a3,.int a4]=>some (a0,a1,a2,a3,a4)
  | _=>none
def f114.P:List Ae:=[Kr]
def f114.A:Aa (SP):=.one ⟨[Fh],[some Uj]⟩ Nx
def f114.F (n:Nat) (v:KD):=let (a,b,c,d):=v;f114 n a b c d
def f114.O (n:Nat):BJ:=AK (E:=E) [f83.w,f84.w] [] n
theorem f114.ok:Bh 114 f114.P B5 f114.A f114.F:=Bi gW f114.O
def f114.w:A7 E:=BQ 114 f114.P B5 f114.A f114.F f114.ok
def f143:Nat→Nat→List T→Int→Int→Nat→List T→Option (fL)
 | 0,_,_,_,_,_,_=>none
 | n+1,n1,l2,i3,i4,n5,l6 =>
   bd (f83 n n1 l2 i3 i4 (n5:Int)) fun r7 =>
   let i8:=r7.1
   let n9:=r7.2.1
   let l10:=r7.2.2.1
   let i11:=r7.2.2.2.1
   let i12:=r7.2.2.2.2
   gd (decide ((0≤i8)∧(i8<(n5:Int)))) (
   gd (AI [(.int .i64)] l6 (Int.toNat i8)) (
   some ((Ed l6 (Int.toNat i8)),n9,l10,i11,i12,n5,l6)))
def N8:By (YK) where
 pk:=fun (a0,a1,a2,a3,a4,a5)=>[.lst a0 a1,.int a2,.int a3,.lst a4 a5]
 up:=fun ls=>match ls with
  | [.lst a0 a1,.int a2,.int a3,.lst a4 a5]=>some (a0,a1,a2,a3,a4,a5)
  | _=>none
def Y5:By (fL) where
 pk:=fun (a0,a1,a2,a3,a4,a5,a6)=>[.int a0,.lst a1 a2,.int a3,.int a4,.lst a5 a6]
 up:=fun ls=>match ls with
  | [.int a0,.lst a1 a2,.int a3,.int a4,.lst a5 a6]=>some (a0,a1,a2,a3,a4,a5,a6)
  | _=>none
def f143.P:List Ae:=[Kr,⟨.io,DZ⟩]
def f143.A:Aa (fL):=.one ⟨[Ns],[some Uj,some DZ]⟩ Y5
def f143.F (n:Nat) (v:YK):=let (a,b,c,d,e,f):=v;f143 n a b c d e f
def f143.O (n:Nat):BJ:=AK (E:=E) [f83.w] [] n
theorem f143.ok:Bh 143 f143.P N8 f143.A f143.F:=Bi fN f143.O
def f143.w:A7 E:=BQ 143 f143.P N8 f143.A f143.F f143.ok
def f142:Nat→Int→Option (Nat)
 | 0,_=>none
 | n+1,i1 =>
   bd (D1 n (IntKind.u32.wrap i1)) fun r2 =>
   let x3:=r2
   some x3
def F9:By (Int) where
 pk:=fun v=>[.int v]
 up:=fun ls=>match ls with
  | [.int a0]=>some a0
  | _=>none
def BE:By (Nat) where
 pk:=fun v=>[.flt v]
 up:=fun ls=>match ls with
  | [.flt a0]=>some a0
  | _=>none
def f142.P:List Ae:=[CV]
def f142.A:Aa (Nat):=.one ⟨[Fh],[none]⟩ BE
def f142.F (n:Nat) (v:Int):=f142 n v
def f142.O (n:Nat):BJ:=AK (E:=E) [x167.w] [] n
theorem f142.ok:Bh 142 f142.P F9 f142.A f142.F:=Bi f9 f142.O
def f142.w:A7 E:=BQ 142 f142.P F9 f142.A f142.F f142.ok
def f113:Nat→Nat→List T→Int→Int→Option (SP)
 | 0,_,_,_,_=>none
 | n+1,n1,l2,i3,i4 =>
   bd (f84 n n1 l2 i3 i4 (12:Int)) fun r5 =>
   let b6:=r5.1
   let n7:=r5.2.1
   let l8:=r5.2.2.1
   let i9:=r5.2.2.2.1
   let i10:=r5.2.2.2.2
   br (!b6) (
    bd (f114 n n7 l8 i9 i10) fun r11 =>
    let x12:=r11.1
    let n13:=r11.2.1
    let l14:=r11.2.2.1
    let i15:=r11.2.2.2.1
    let i16:=r11.2.2.2.2
    some (x12,n13,l14,i15,i16)) (
    bd (f83 n n7 l8 i9 i10 (4:Int)) fun r17 =>
    let i18:=r17.1
    let n19:=r17.2.1
    let l20:=r17.2.2.1
    let i21:=r17.2.2.2.1
    let i22:=r17.2.2.2.2
    br (i18==(0:Int)) (
     bd (f143 n n19 l20 i21 i22 10 (AF (AF (AF (AF (AF (AF (AF (AF (AF (AF (reps 10 [(T.int .i64 (0:Int))]) 0 [(T.int .i64 (0:Int))]) 1 [(T.int .i64 (2147483648:Int))]) 2 [(T.int .i64 (2139095040:Int))]) 3 [(T.int .i64 (4286578688:Int))]) 4 [(T.int .i64 (2143289344:Int))]) 5 [(T.int .i64 (1:Int))]) 6 [(T.int .i64 (2139095039:Int))]) 7 [(T.int .i64 (8388608:Int))]) 8 [(T.int .i64 (8388607:Int))]) 9 [(T.int .i64 (2147483649:Int))])) fun r23 =>
     let i24:=r23.1
     let n25:=r23.2.1
     let l26:=r23.2.2.1
     let i27:=r23.2.2.2.1
     let i28:=r23.2.2.2.2.1
     bd (f142 n i24) fun r31 =>
     let x32:=r31
     some (x32,n25,l26,i27,i28)) (
     br (i18==(1:Int)) (
      bd (f83 n n19 l20 i21 i22 (65536:Int)) fun r33 =>
      let i34:=r33.1
      let n35:=r33.2.1
      let l36:=r33.2.2.1
      let i37:=r33.2.2.2.1
      let i38:=r33.2.2.2.2
      let i39:=(IntKind.i64.wrap (i34 * (65536:Int)))
      bd (f83 n n35 l36 i37 i38 (65536:Int)) fun r40 =>
      let i41:=r40.1
      let n42:=r40.2.1
      let l43:=r40.2.2.1
      let i44:=r40.2.2.2.1
      let i45:=r40.2.2.2.2
      bd (f142 n (IntKind.i64.wrap (i39+i41))) fun r46 =>
      let x47:=r46
      some (x47,n42,l43,i44,i45)) (
      br (i18==(2:Int)) (
       bd (f83 n n19 l20 i21 i22 (65536:Int)) fun r48 =>
       let i49:=r48.1
       let n50:=r48.2.1
       let l51:=r48.2.2.1
       let i52:=r48.2.2.2.1
       let i53:=r48.2.2.2.2
       bd (f142 n (IntKind.i64.wrap (i49 * (65536:Int)))) fun r54 =>
       let x55:=r54
       some (x55,n50,l51,i52,i53)) (
       bd (f114 n n19 l20 i21 i22) fun r56 =>
       let x57:=r56.1
       let n58:=r56.2.1
       let l59:=r56.2.2.1
       let i60:=r56.2.2.2.1
       let i61:=r56.2.2.2.2
       bd (f143 n n58 l59 i60 i61 4 (AF (AF (AF (AF (reps 4 [(T.int .i64 (0:Int))]) 0 [(T.int .i64 (8388608:Int))]) 1 [(T.int .i64 (2130706432:Int))]) 2 [(T.int .i64 (1610612736:Int))]) 3 [(T.int .i64 (536870912:Int))])) fun r62 =>
       let i63:=r62.1
       let n64:=r62.2.1
       let l65:=r62.2.2.1
       let i66:=r62.2.2.2.1
       let i67:=r62.2.2.2.2.1
       bd (f142 n i63) fun r70 =>
       let x71:=r70
       some ((AM .f32 x57 x71),n64,l65,i66,i67)))))
def f113.P:List Ae:=[Kr]
def f113.A:Aa (SP):=.one ⟨[Fh],[some Uj]⟩ Nx
def f113.F (n:Nat) (v:KD):=let (a,b,c,d):=v;f113 n a b c d
def f113.O (n:Nat):BJ:=AK (E:=E) [f83.w,f84.w,f114.w,f143.w,f142.w] [] n
theorem f113.ok:Bh 113 f113.P B5 f113.A f113.F:=Bi eA f113.O
def f113.w:A7 E:=BQ 113 f113.P B5 f113.A f113.F f113.ok
def f139:Nat→Nat→List T→Int→Int→Option (SP)
 | 0,_,_,_,_=>none
 | n+1,n1,l2,i3,i4 =>
   bd (f84 n n1 l2 i3 i4 (10:Int)) fun r5 =>
   let b6:=r5.1
   let n7:=r5.2.1
   let l8:=r5.2.2.1
   let i9:=r5.2.2.2.1
   let i10:=r5.2.2.2.2
   br b6 (
    bd (f113 n n7 l8 i9 i10) fun r11 =>
    let x12:=r11.1
    let n13:=r11.2.1
    let l14:=r11.2.2.1
    let i15:=r11.2.2.2.1
    let i16:=r11.2.2.2.2
    some (x12,n13,l14,i15,i16)) (
    bd (f83 n n7 l8 i9 i10 (17:Int)) fun r17 =>
    let i18:=r17.1
    let n19:=r17.2.1
    let l20:=r17.2.2.1
    let i21:=r17.2.2.2.1
    let i22:=r17.2.2.2.2
    some ((fdiv .f32 (FloatKind.nearest .f32 i18) 1098907648),n19,l20,i21,i22))
def f139.P:List Ae:=[Kr]
def f139.A:Aa (SP):=.one ⟨[Fh],[some Uj]⟩ Nx
def f139.F (n:Nat) (v:KD):=let (a,b,c,d):=v;f139 n a b c d
def f139.O (n:Nat):BJ:=AK (E:=E) [f83.w,f84.w,f113.w] [] n
theorem f139.ok:Bh 139 f139.P B5 f139.A f139.F:=Bi fZ f139.O
def f139.w:A7 E:=BQ 139 f139.P B5 f139.A f139.F f139.ok
def f165:Nat→Nat→List T→Int→Int→Option (SP)
 | 0,_,_,_,_=>none
 | n+1,n1,l2,i3,i4 =>
   bd (f84 n n1 l2 i3 i4 (8:Int)) fun r5 =>
   let b6:=r5.1
   let n7:=r5.2.1
   let l8:=r5.2.2.1
   let i9:=r5.2.2.2.1
   let i10:=r5.2.2.2.2
   br b6 (
    bd (f113 n n7 l8 i9 i10) fun r11 =>
    let x12:=r11.1
    let n13:=r11.2.1
    let l14:=r11.2.2.1
    let i15:=r11.2.2.2.1
    let i16:=r11.2.2.2.2
    some (x12,n13,l14,i15,i16)) (
    bd (f84 n n7 l8 i9 i10 (3:Int)) fun r17 =>
    let b18:=r17.1
    let n19:=r17.2.1
    let l20:=r17.2.2.1
    let i21:=r17.2.2.2.1
    let i22:=r17.2.2.2.2
    br b18 (
     some (0,n19,l20,i21,i22)) (
     bd (f83 n n19 l20 i21 i22 (33:Int)) fun r23 =>
     let i24:=r23.1
     let n25:=r23.2.1
     let l26:=r23.2.2.1
     let i27:=r23.2.2.2.1
     let i28:=r23.2.2.2.2
     some ((fdiv .f32 (FloatKind.nearest .f32 (IntKind.i64.wrap (i24 - (16:Int)))) 1090519040),n25,l26,i27,i28)))
def f165.P:List Ae:=[Kr]
def f165.A:Aa (SP):=.one ⟨[Fh],[some Uj]⟩ Nx
def f165.F (n:Nat) (v:KD):=let (a,b,c,d):=v;f165 n a b c d
def f165.O (n:Nat):BJ:=AK (E:=E) [f83.w,f84.w,f113.w] [] n
theorem f165.ok:Bh 165 f165.P B5 f165.A f165.F:=Bi eZ f165.O
def f165.w:A7 E:=BQ 165 f165.P B5 f165.A f165.F f165.ok
def f140:Nat→Nat→List T→Int→Int→Option (aB)
 | 0,_,_,_,_=>none
 | n+1,n1,l2,i3,i4 =>
   bd (f165 n n1 l2 i3 i4) fun r5 =>
   let x6:=r5.1
   let n7:=r5.2.1
   let l8:=r5.2.2.1
   let i9:=r5.2.2.2.1
   let i10:=r5.2.2.2.2
   bd (f165 n n7 l8 i9 i10) fun r11 =>
   let x12:=r11.1
   let n13:=r11.2.1
   let l14:=r11.2.2.1
   let i15:=r11.2.2.2.1
   let i16:=r11.2.2.2.2
   bd (f165 n n13 l14 i15 i16) fun r17 =>
   let x18:=r17.1
   let n19:=r17.2.1
   let l20:=r17.2.2.1
   let i21:=r17.2.2.2.1
   let i22:=r17.2.2.2.2
   bd (f83 n n19 l20 i21 i22 (15:Int)) fun r23 =>
   let i24:=r23.1
   let n25:=r23.2.1
   let l26:=r23.2.2.1
   let i27:=r23.2.2.2.1
   let i28:=r23.2.2.2.2
   let x29:=(fdiv .f32 (FloatKind.nearest .f32 (IntKind.i64.wrap (i24 - (7:Int)))) 1090519040)
   bd (f83 n n25 l26 i27 i28 (7:Int)) fun r30 =>
   let i31:=r30.1
   let n32:=r30.2.1
   let l33:=r30.2.2.1
   let i34:=r30.2.2.2.1
   let i35:=r30.2.2.2.2
   let x36:=(fdiv .f32 (FloatKind.nearest .f32 (IntKind.i64.wrap (i31 - (3:Int)))) 1090519040)
   bd (f84 n n32 l33 i34 i35 (4:Int)) fun r37 =>
   let b38:=r37.1
   let n39:=r37.2.1
   let l40:=r37.2.2.1
   let i41:=r37.2.2.2.1
   let i42:=r37.2.2.2.2
   br b38 (
    bd (f165 n n39 l40 i41 i42) fun r43 =>
    let x44:=r43.1
    let n45:=r43.2.1
    let l46:=r43.2.2.1
    let i47:=r43.2.2.2.1
    let i48:=r43.2.2.2.2
    bd (f84 n n45 l46 i47 i48 (4:Int)) fun r49 =>
    let b50:=r49.1
    let n51:=r49.2.1
    let l52:=r49.2.2.1
    let i53:=r49.2.2.2.1
    let i54:=r49.2.2.2.2
    br b50 (
     bd (f165 n n51 l52 i53 i54) fun r55 =>
     let x56:=r55.1
     let n57:=r55.2.1
     let l58:=r55.2.2.1
     let i59:=r55.2.2.2.1
     let i60:=r55.2.2.2.2
     some (x6,x12,x18,x44,x56,n57,l58,i59,i60)) (
     some (x6,x12,x18,x44,x36,n51,l52,i53,i54))) (
    bd (f84 n n39 l40 i41 i42 (4:Int)) fun r61 =>
    let b62:=r61.1
    let n63:=r61.2.1
    let l64:=r61.2.2.1
    let i65:=r61.2.2.2.1
    let i66:=r61.2.2.2.2
    br b62 (
     bd (f165 n n63 l64 i65 i66) fun r67 =>
     let x68:=r67.1
     let n69:=r67.2.1
     let l70:=r67.2.2.1
     let i71:=r67.2.2.2.1
     let i72:=r67.2.2.2.2
     some (x6,x12,x18,x29,x68,n69,l70,i71,i72)) (
     some (x6,x12,x18,x29,x36,n63,l64,i65,i66)))
def NT:By (aB) where
 pk:=fun (a0,a1,a2,a3,a4,a5,a6,a7,a8)=>[.flt a0,.flt a1,.flt a2,.flt a3,.flt a4,.lst a5 a6,.int a7,.int a8]
 up:=fun ls=>match ls with
  | [.flt a0,.flt a1,.flt a2,.flt a3,.flt a4,.lst a5 a6,.int a7,.int a8]=>some (a0,a1,a2,a3,a4,a5,a6,a7,a8)
  | _=>none
def f140.P:List Ae:=[Kr]
def f140.A:Aa (aB):=.one ⟨[gz],[some Uj]⟩ NT
def f140.F (n:Nat) (v:KD):=let (a,b,c,d):=v;f140 n a b c d
def f140.O (n:Nat):BJ:=AK (E:=E) [f83.w,f84.w,f165.w] [] n
theorem f140.ok:Bh 140 f140.P B5 f140.A f140.F:=Bi d9 f140.O
def f140.w:A7 E:=BQ 140 f140.P B5 f140.A f140.F f140.ok
def f166:Nat→Nat→List T→Int→Int→Option (dz)
 | 0,_,_,_,_=>none
 | n+1,n1,l2,i3,i4 =>
   bd (f139 n n1 l2 i3 i4) fun r5 =>
   let x6:=r5.1
   let n7:=r5.2.1
   let l8:=r5.2.2.1
   let i9:=r5.2.2.2.1
   let i10:=r5.2.2.2.2
   bd (f139 n n7 l8 i9 i10) fun r11 =>
   let x12:=r11.1
   let n13:=r11.2.1
   let l14:=r11.2.2.1
   let i15:=r11.2.2.2.1
   let i16:=r11.2.2.2.2
   bd (f84 n n13 l14 i15 i16 (2:Int)) fun r17 =>
   let b18:=r17.1
   let n19:=r17.2.1
   let l20:=r17.2.2.1
   let i21:=r17.2.2.2.1
   let i22:=r17.2.2.2.2
   br b18 (
    bd (f113 n n19 l20 i21 i22) fun r23 =>
    let x24:=r23.1
    let n25:=r23.2.1
    let l26:=r23.2.2.1
    let i27:=r23.2.2.2.1
    let i28:=r23.2.2.2.2
    some (x6,x12,x24,n25,l26,i27,i28)) (
    some (x6,x12,0,n19,l20,i21,i22))
def Xg:By (dz) where
 pk:=fun (a0,a1,a2,a3,a4,a5,a6)=>[.flt a0,.flt a1,.flt a2,.lst a3 a4,.int a5,.int a6]
 up:=fun ls=>match ls with
  | [.flt a0,.flt a1,.flt a2,.lst a3 a4,.int a5,.int a6]=>some (a0,a1,a2,a3,a4,a5,a6)
  | _=>none
def f166.P:List Ae:=[Kr]
def f166.A:Aa (dz):=.one ⟨[⟨true,[.leaf,.leaf,.leaf],[.flt .f32 0,.flt .f32 0,.flt .f32 0]⟩],[some Uj]⟩ Xg
def f166.F (n:Nat) (v:KD):=let (a,b,c,d):=v;f166 n a b c d
def f166.O (n:Nat):BJ:=AK (E:=E) [f84.w,f113.w,f139.w] [] n
theorem f166.ok:Bh 166 f166.P B5 f166.A f166.F:=Bi gI f166.O
def f166.w:A7 E:=BQ 166 f166.P B5 f166.A f166.F f166.ok
def f141:Nat→Nat→List T→Int→Int→Option (aB)
 | 0,_,_,_,_=>none
 | n+1,n1,l2,i3,i4 =>
   bd (f166 n n1 l2 i3 i4) fun r5 =>
   let x6:=r5.1
   let x7:=r5.2.1
   let x8:=r5.2.2.1
   let n9:=r5.2.2.2.1
   let l10:=r5.2.2.2.2.1
   let i11:=r5.2.2.2.2.2.1
   let i12:=r5.2.2.2.2.2.2
   bd (f139 n n9 l10 i11 i12) fun r13 =>
   let x14:=r13.1
   let n15:=r13.2.1
   let l16:=r13.2.2.1
   let i17:=r13.2.2.2.1
   let i18:=r13.2.2.2.2
   bd (f83 n n15 l16 i17 i18 (8:Int)) fun r19 =>
   let i20:=r19.1
   let n21:=r19.2.1
   let l22:=r19.2.2.1
   let i23:=r19.2.2.2.1
   let i24:=r19.2.2.2.2
   let x25:=(FloatKind.nearest .f32 (IntKind.i64.wrap ((1:Int)+i20)))
   bd (f84 n n21 l22 i23 i24 (10:Int)) fun r26 =>
   let b27:=r26.1
   let n28:=r26.2.1
   let l29:=r26.2.2.1
   let i30:=r26.2.2.2.1
   let i31:=r26.2.2.2.2
   br b27 (
    bd (f113 n n28 l29 i30 i31) fun r32 =>
    let x33:=r32.1
    let n34:=r32.2.1
    let l35:=r32.2.2.1
    let i36:=r32.2.2.2.1
    let i37:=r32.2.2.2.2
    some (x6,x7,x8,x14,x33,n34,l35,i36,i37)) (
    some (x6,x7,x8,x14,x25,n28,l29,i30,i31))
def f141.P:List Ae:=[Kr]
def f141.A:Aa (aB):=.one ⟨[gz],[some Uj]⟩ NT
def f141.F (n:Nat) (v:KD):=let (a,b,c,d):=v;f141 n a b c d
def f141.O (n:Nat):BJ:=AK (E:=E) [f83.w,f84.w,f113.w,f139.w,f166.w] [] n
theorem f141.ok:Bh 141 f141.P B5 f141.A f141.F:=Bi dg f141.O
def f141.w:A7 E:=BQ 141 f141.P B5 f141.A f141.F f141.ok
def f112:Nat→Nat→List T→Int→Int→Option (et)
 | 0,_,_,_,_=>none
 | n+1,n1,l2,i3,i4 =>
   bd (f83 n n1 l2 i3 i4 (7:Int)) fun r5 =>
   let i6:=r5.1
   let n7:=r5.2.1
   let l8:=r5.2.2.1
   let i9:=r5.2.2.2.1
   let i10:=r5.2.2.2.2
   br (i6==(0:Int)) (
    br (i6==(0:Int)) (
     bd (f139 n n7 l8 i9 i10) fun r11 =>
     let x12:=r11.1
     let n13:=r11.2.1
     let l14:=r11.2.2.1
     let i15:=r11.2.2.2.1
     let i16:=r11.2.2.2.2
     let l17:=((reps 0 [(T.flt .f32 0)])++(AF (reps 1 [(T.flt .f32 0)]) 0 [(T.flt .f32 x12)]))
     some (i6,(0:Int),1,l17,n13,l14,i15,i16)) (
     br (i6==(1:Int)) (
      bd (f140 n n7 l8 i9 i10) fun r18 =>
      let x19:=r18.1
      let x20:=r18.2.1
      let x21:=r18.2.2.1
      let x22:=r18.2.2.2.1
      let x23:=r18.2.2.2.2.1
      let n24:=r18.2.2.2.2.2.1
      let l25:=r18.2.2.2.2.2.2.1
      let i26:=r18.2.2.2.2.2.2.2.1
      let i27:=r18.2.2.2.2.2.2.2.2
      let l28:=(AF (AF (AF (AF (AF (reps 5 [(T.flt .f32 0)]) 0 [(T.flt .f32 x19)]) 1 [(T.flt .f32 x20)]) 2 [(T.flt .f32 x21)]) 3 [(T.flt .f32 x22)]) 4 [(T.flt .f32 x23)])
      some (i6,(0:Int),5,l28,n24,l25,i26,i27)) (
      br (i6==(2:Int)) (
       bd (f83 n n7 l8 i9 i10 (5:Int)) fun r29 =>
       let i30:=r29.1
       let n31:=r29.2.1
       let l32:=r29.2.2.1
       let i33:=r29.2.2.2.1
       let i34:=r29.2.2.2.2
       let i35:=(IntKind.i64.wrap ((1:Int)+i30))
       bd (f139 n n31 l32 i33 i34) fun r36 =>
       let x37:=r36.1
       let n38:=r36.2.1
       let l39:=r36.2.2.1
       let i40:=r36.2.2.2.1
       let i41:=r36.2.2.2.2
       let l42:=((reps 0 [(T.flt .f32 0)])++(AF (reps 1 [(T.flt .f32 0)]) 0 [(T.flt .f32 x37)]))
       bd (f139 n n38 l39 i40 i41) fun r43 =>
       let x44:=r43.1
       let n45:=r43.2.1
       let l46:=r43.2.2.1
       let i47:=r43.2.2.2.1
       let i48:=r43.2.2.2.2
       let l49:=(l42++(AF (reps 1 [(T.flt .f32 0)]) 0 [(T.flt .f32 x44)]))
       some (i6,i35,2,l49,n45,l46,i47,i48)) (
       br (i6==(3:Int)) (
        bd (f141 n n7 l8 i9 i10) fun r50 =>
        let x51:=r50.1
        let x52:=r50.2.1
        let x54:=r50.2.2.2.1
        let x55:=r50.2.2.2.2.1
        let n56:=r50.2.2.2.2.2.1
        let l57:=r50.2.2.2.2.2.2.1
        let i58:=r50.2.2.2.2.2.2.2.1
        let i59:=r50.2.2.2.2.2.2.2.2
        let l60:=(AF (AF (AF (AF (reps 4 [(T.flt .f32 0)]) 0 [(T.flt .f32 x51)]) 1 [(T.flt .f32 x52)]) 2 [(T.flt .f32 x54)]) 3 [(T.flt .f32 x55)])
        some (i6,(0:Int),4,l60,n56,l57,i58,i59)) (
        br (i6==(6:Int)) (
         bd (f83 n n7 l8 i9 i10 (5:Int)) fun r61 =>
         let i62:=r61.1
         let n63:=r61.2.1
         let l64:=r61.2.2.1
         let i65:=r61.2.2.2.1
         let i66:=r61.2.2.2.2
         bd (f83 n n63 l64 i65 i66 (16:Int)) fun r67 =>
         let i68:=r67.1
         let n69:=r67.2.1
         let l70:=r67.2.2.1
         let i71:=r67.2.2.2.1
         let i72:=r67.2.2.2.2
         let l73:=((reps 0 [(T.flt .f32 0)])++(AF (reps 1 [(T.flt .f32 0)]) 0 [(T.flt .f32 (fdiv .f32 (FloatKind.nearest .f32 (IntKind.i64.wrap ((1:Int)+i68))) 1098907648))]))
         bd (f139 n n69 l70 i71 i72) fun r74 =>
         let x75:=r74.1
         let n76:=r74.2.1
         let l77:=r74.2.2.1
         let i78:=r74.2.2.2.1
         let i79:=r74.2.2.2.2
         let l80:=(l73++(AF (reps 1 [(T.flt .f32 0)]) 0 [(T.flt .f32 x75)]))
         some (i6,i62,2,l80,n76,l77,i78,i79)) (
         some (i6,(0:Int),0,(reps 0 [(T.flt .f32 0)]),n7,l8,i9,i10))))))) (
    br (i6==(4:Int)) (
     bd (f139 n n7 l8 i9 i10) fun r81 =>
     let x82:=r81.1
     let n83:=r81.2.1
     let l84:=r81.2.2.1
     let i85:=r81.2.2.2.1
     let i86:=r81.2.2.2.2
     let l87:=((reps 0 [(T.flt .f32 0)])++(AF (reps 1 [(T.flt .f32 0)]) 0 [(T.flt .f32 x82)]))
     some (i6,(0:Int),1,l87,n83,l84,i85,i86)) (
     br (i6==(1:Int)) (
      bd (f140 n n7 l8 i9 i10) fun r88 =>
      let x89:=r88.1
      let x90:=r88.2.1
      let x91:=r88.2.2.1
      let x92:=r88.2.2.2.1
      let x93:=r88.2.2.2.2.1
      let n94:=r88.2.2.2.2.2.1
      let l95:=r88.2.2.2.2.2.2.1
      let i96:=r88.2.2.2.2.2.2.2.1
      let i97:=r88.2.2.2.2.2.2.2.2
      let l98:=(AF (AF (AF (AF (AF (reps 5 [(T.flt .f32 0)]) 0 [(T.flt .f32 x89)]) 1 [(T.flt .f32 x90)]) 2 [(T.flt .f32 x91)]) 3 [(T.flt .f32 x92)]) 4 [(T.flt .f32 x93)])
      some (i6,(0:Int),5,l98,n94,l95,i96,i97)) (
      br (i6==(2:Int)) (
       bd (f83 n n7 l8 i9 i10 (5:Int)) fun r99 =>
       let i100:=r99.1
       let n101:=r99.2.1
       let l102:=r99.2.2.1
       let i103:=r99.2.2.2.1
       let i104:=r99.2.2.2.2
       let i105:=(IntKind.i64.wrap ((1:Int)+i100))
       bd (f139 n n101 l102 i103 i104) fun r106 =>
       let x107:=r106.1
       let n108:=r106.2.1
       let l109:=r106.2.2.1
       let i110:=r106.2.2.2.1
       let i111:=r106.2.2.2.2
       let l112:=((reps 0 [(T.flt .f32 0)])++(AF (reps 1 [(T.flt .f32 0)]) 0 [(T.flt .f32 x107)]))
       bd (f139 n n108 l109 i110 i111) fun r113 =>
       let x114:=r113.1
       let n115:=r113.2.1
       let l116:=r113.2.2.1
       let i117:=r113.2.2.2.1
       let i118:=r113.2.2.2.2
       let l119:=(l112++(AF (reps 1 [(T.flt .f32 0)]) 0 [(T.flt .f32 x114)]))
       some (i6,i105,2,l119,n115,l116,i117,i118)) (
       br (i6==(3:Int)) (
        bd (f141 n n7 l8 i9 i10) fun r120 =>
        let x121:=r120.1
        let x122:=r120.2.1
        let x124:=r120.2.2.2.1
        let x125:=r120.2.2.2.2.1
        let n126:=r120.2.2.2.2.2.1
        let l127:=r120.2.2.2.2.2.2.1
        let i128:=r120.2.2.2.2.2.2.2.1
        let i129:=r120.2.2.2.2.2.2.2.2
        let l130:=(AF (AF (AF (AF (reps 4 [(T.flt .f32 0)]) 0 [(T.flt .f32 x121)]) 1 [(T.flt .f32 x122)]) 2 [(T.flt .f32 x124)]) 3 [(T.flt .f32 x125)])
        some (i6,(0:Int),4,l130,n126,l127,i128,i129)) (
        br (i6==(6:Int)) (
         bd (f83 n n7 l8 i9 i10 (5:Int)) fun r131 =>
         let i132:=r131.1
         let n133:=r131.2.1
         let l134:=r131.2.2.1
         let i135:=r131.2.2.2.1
         let i136:=r131.2.2.2.2
         bd (f83 n n133 l134 i135 i136 (16:Int)) fun r137 =>
         let i138:=r137.1
         let n139:=r137.2.1
         let l140:=r137.2.2.1
         let i141:=r137.2.2.2.1
         let i142:=r137.2.2.2.2
         let l143:=((reps 0 [(T.flt .f32 0)])++(AF (reps 1 [(T.flt .f32 0)]) 0 [(T.flt .f32 (fdiv .f32 (FloatKind.nearest .f32 (IntKind.i64.wrap ((1:Int)+i138))) 1098907648))]))
         bd (f139 n n139 l140 i141 i142) fun r144 =>
         let x145:=r144.1
         let n146:=r144.2.1
         let l147:=r144.2.2.1
         let i148:=r144.2.2.2.1
         let i149:=r144.2.2.2.2
         let l150:=(l143++(AF (reps 1 [(T.flt .f32 0)]) 0 [(T.flt .f32 x145)]))
         some (i6,i132,2,l150,n146,l147,i148,i149)) (
         some (i6,(0:Int),0,(reps 0 [(T.flt .f32 0)]),n7,l8,i9,i10)))))))
def YT:By (et) where
 pk:=fun (a0,a1,a2,a3,a4,a5,a6,a7)=>[.int a0,.int a1,.lst a2 a3,.lst a4 a5,.int a6,.int a7]
 up:=fun ls=>match ls with
  | [.int a0,.int a1,.lst a2 a3,.lst a4 a5,.int a6,.int a7]=>some (a0,a1,a2,a3,a4,a5,a6,a7)
  | _=>none
def f112.P:List Ae:=[Kr]
def f112.A:Aa (et):=.one ⟨[⟨true,[.leaf,.leaf,.sl .own [.leaf]],[.int .i64 0,.int .i64 0,.lst 0 []]⟩],[some Uj]⟩ YT
def f112.F (n:Nat) (v:KD):=let (a,b,c,d):=v;f112 n a b c d
def f112.O (n:Nat):BJ:=AK (E:=E) [f83.w,f139.w,f140.w,f141.w] [] n
theorem f112.ok:Bh 112 f112.P B5 f112.A f112.F:=Bi gB f112.O
def f112.w:A7 E:=BQ 112 f112.P B5 f112.A f112.F f112.ok
def f85.l0 (n:Nat):Nat→Nat→List T→Int→Int→Nat→List T→Int→Option (YK)
 | 0,_,_,_,_,_,_,_=>none
 | m+1,n1,l2,i3,i4,n5,l6,i7 =>
   br (decide (i7>(0:Int))) (
    bd (f112 n n1 l2 i3 i4) fun r8 =>
    let i9:=r8.1
    let i10:=r8.2.1
    let n11:=r8.2.2.1
    let l12:=r8.2.2.2.1
    let n13:=r8.2.2.2.2.1
    let l14:=r8.2.2.2.2.2.1
    let i15:=r8.2.2.2.2.2.2.1
    let i16:=r8.2.2.2.2.2.2.2
    gd (Nat.ble (n5+1) 2147483648) (
    let n17:=(n5+1)
    let l18:=(l6++(AF (reps 1 [(T.int .i64 (0:Int)),(T.int .i64 (0:Int)),(T.lst 0 [])]) 0 [(T.int .i64 i9),(T.int .i64 i10),(T.lst n11 l12)]))
    f85.l0 n m n13 l14 i15 i16 n17 l18 (IntKind.i64.wrap (i7 - (1:Int))))) (
    some (n1,l2,i3,i4,n5,l6))
def f85:Nat→Nat→List T→Int→Int→Option (NC)
 | 0,_,_,_,_=>none
 | n+1,n1,l2,i3,i4 =>
   bd (f83 n n1 l2 i3 i4 (5:Int)) fun r5 =>
   let i6:=r5.1
   let n7:=r5.2.1
   let l8:=r5.2.2.1
   let i9:=r5.2.2.2.1
   let i10:=r5.2.2.2.2
   bd (f84 n n7 l8 i9 i10 (24:Int)) fun r11 =>
   let b12:=r11.1
   let n13:=r11.2.1
   let l14:=r11.2.2.1
   let i15:=r11.2.2.2.1
   let i16:=r11.2.2.2.2
   br b12 (
    bd (f85.l0 n n n13 l14 i15 i16 0 (reps 0 [(T.int .i64 (0:Int)),(T.int .i64 (0:Int)),(T.lst 0 [])]) (8:Int)) fun r17 =>
    let n18:=r17.1
    let l19:=r17.2.1
    let i20:=r17.2.2.1
    let i21:=r17.2.2.2.1
    let n22:=r17.2.2.2.2.1
    let l23:=r17.2.2.2.2.2
    some (n22,l23,n18,l19,i20,i21)) (
    bd (f85.l0 n n n13 l14 i15 i16 0 (reps 0 [(T.int .i64 (0:Int)),(T.int .i64 (0:Int)),(T.lst 0 [])]) i6) fun r24 =>
    let n25:=r24.1
    let l26:=r24.2.1
    let i27:=r24.2.2.1
    let i28:=r24.2.2.2.1
    let n29:=r24.2.2.2.2.1
    let l30:=r24.2.2.2.2.2
    some (n29,l30,n25,l26,i27,i28))
def Cc:By (NC) where
 pk:=fun (a0,a1,a2,a3,a4,a5)=>[.lst a0 a1,.lst a2 a3,.int a4,.int a5]
 up:=fun ls=>match ls with
  | [.lst a0 a1,.lst a2 a3,.int a4,.int a5]=>some (a0,a1,a2,a3,a4,a5)
  | _=>none
def VP:By (ir) where
 pk:=fun (a0,a1,a2,a3,a4,a5,a6)=>[.lst a0 a1,.int a2,.int a3,.lst a4 a5,.int a6]
 up:=fun ls=>match ls with
  | [.lst a0 a1,.int a2,.int a3,.lst a4 a5,.int a6]=>some (a0,a1,a2,a3,a4,a5,a6)
  | _=>none
def f85.l0.P:AS:=⟨[(0,Te),(3,XT),(4,AU)],0⟩
def f85.l0.A:D7 (YK):=.one (.exit 0) ⟨[(0,Te),(3,XT)],0⟩ N8
def f85.l0.F (n m:Nat) (v:ir):=let (a,b,c,d,e,f,g):=v;f85.l0 n m a b c d e f g
def f85.l0.W (n:Nat):ER:=.of 80 f85.l0.P VP f85.l0.A (f85.l0.F n n)
def f85.P:List Ae:=[Kr]
def f85.A:Aa (NC):=.one ⟨[mR],[some Uj]⟩ Cc
def f85.F (n:Nat) (v:KD):=let (a,b,c,d):=v;f85 n a b c d
def f85.O (n:Nat):BJ:=AK (E:=E) [f83.w,f84.w,f112.w] [f85.l0.W n] n
theorem f85.l0.ok:∀ n,E0 85 iB 0 n (f85.O n):=FC f85.l0.P VP f85.l0.A f85.l0.F
theorem f85.ok:Bh 85 f85.P B5 f85.A f85.F:=Bi iB f85.O [Ac iB 0] (fun n=>(.cons (f85.l0.ok n) .nil))
def f85.w:A7 E:=BQ 85 f85.P B5 f85.A f85.F f85.ok
def f49.l0 (n:Nat):Nat→Nat→List T→Int→Int→Nat→List T→Nat→List T→Nat→List T→Nat→List T→Int→Option (Zy)
 | 0,_,_,_,_,_,_,_,_,_,_,_,_,_=>none
 | m+1,n1,l2,i3,i4,n5,l6,n7,l8,n9,l10,n11,l12,i13 =>
   br (decide (i13>(0:Int))) (
    bd (f84 n n1 l2 i3 i4 (6:Int)) fun r14 =>
    let b15:=r14.1
    let n16:=r14.2.1
    let l17:=r14.2.2.1
    let i18:=r14.2.2.2.1
    let i19:=r14.2.2.2.2
    bd (f84 n n16 l17 i18 i19 (8:Int)) fun r20 =>
    let b21:=r20.1
    let n22:=r20.2.1
    let l23:=r20.2.2.1
    let i24:=r20.2.2.2.1
    let i25:=r20.2.2.2.2
    bd (f84 n n22 l23 i24 i25 (2:Int)) fun r26 =>
    let b27:=r26.1
    let n28:=r26.2.1
    let l29:=r26.2.2.1
    let i30:=r26.2.2.2.1
    let i31:=r26.2.2.2.2
    br b27 (
     bd (f85 n n28 l29 i30 i31) fun r32 =>
     let n33:=r32.1
     let l34:=r32.2.1
     let n35:=r32.2.2.1
     let l36:=r32.2.2.2.1
     let i37:=r32.2.2.2.2.1
     let i38:=r32.2.2.2.2.2
     bd (f83 n n35 l36 i37 i38 (120:Int)) fun r39 =>
     let i40:=r39.1
     let n41:=r39.2.1
     let l42:=r39.2.2.1
     let i43:=r39.2.2.2.1
     let i44:=r39.2.2.2.2
     let i45:=(IntKind.i64.wrap (i40 - (90:Int)))
     bd (f83 n n41 l42 i43 i44 (17:Int)) fun r46 =>
     let i47:=r46.1
     let n48:=r46.2.1
     let l49:=r46.2.2.1
     let i50:=r46.2.2.2.1
     let i51:=r46.2.2.2.2
     let x52:=(fdiv .f32 (FloatKind.nearest .f32 i47) 1098907648)
     gd (Nat.ble (n11+1) 2147483648) (
     let n53:=(n11+1)
     let l54:=(l12++(AF (reps 1 [(T.lst 0 []),(T.int .i64 (0:Int)),(T.flt .f32 0),(T.bool false),(T.bool false)]) 0 [(T.lst n33 l34),(T.int .i64 i45),(T.flt .f32 x52),(T.bool b15),(T.bool b21)]))
     f49.l0 n m n48 l49 i50 i51 n5 l6 n7 l8 n9 l10 n53 l54 (IntKind.i64.wrap (i13 - (1:Int))))) (
     bd (f83 n n28 l29 i30 i31 (120:Int)) fun r55 =>
     let i56:=r55.1
     let n57:=r55.2.1
     let l58:=r55.2.2.1
     let i59:=r55.2.2.2.1
     let i60:=r55.2.2.2.2
     let i61:=(IntKind.i64.wrap (i56 - (90:Int)))
     bd (f83 n n57 l58 i59 i60 (17:Int)) fun r62 =>
     let i63:=r62.1
     let n64:=r62.2.1
     let l65:=r62.2.2.1
     let i66:=r62.2.2.2.1
     let i67:=r62.2.2.2.2
     let x68:=(fdiv .f32 (FloatKind.nearest .f32 i63) 1098907648)
     gd (Nat.ble (n11+1) 2147483648) (
     let n69:=(n11+1)
     let l70:=(l12++(AF (reps 1 [(T.lst 0 []),(T.int .i64 (0:Int)),(T.flt .f32 0),(T.bool false),(T.bool false)]) 0 [(T.lst 0 (reps 0 [(T.int .i64 (0:Int)),(T.int .i64 (0:Int)),(T.lst 0 [])])),(T.int .i64 i61),(T.flt .f32 x68),(T.bool b15),(T.bool b21)]))
     f49.l0 n m n64 l65 i66 i67 n5 l6 n7 l8 n9 l10 n69 l70 (IntKind.i64.wrap (i13 - (1:Int)))))) (
    some (n1,l2,i3,i4,n5,l6,n7,l8,n9,l10,n11,l12))
termination_by structural x=>x
def f86.l0 (n:Nat):Nat→Nat→List T→Int→Int→Int→Nat→List T→Bool→Option (YK)
 | 0,_,_,_,_,_,_,_,_=>none
 | m+1,n1,l2,i3,i4,i5,n6,l7,b8 =>
   br (decide (i5>(0:Int))) (
    br b8 (
     bd (f113 n n1 l2 i3 i4) fun r9 =>
     let x10:=r9.1
     let n11:=r9.2.1
     let l12:=r9.2.2.1
     let i13:=r9.2.2.2.1
     let i14:=r9.2.2.2.2
     gd (Nat.ble (n6+1) 2147483648) (
     let n15:=(n6+1)
     let l16:=(l7++(AF (reps 1 [(T.flt .f32 0)]) 0 [(T.flt .f32 x10)]))
     f86.l0 n m n11 l12 i13 i14 (IntKind.i64.wrap (i5 - (1:Int))) n15 l16 b8)) (
     bd (f114 n n1 l2 i3 i4) fun r17 =>
     let x18:=r17.1
     let n19:=r17.2.1
     let l20:=r17.2.2.1
     let i21:=r17.2.2.2.1
     let i22:=r17.2.2.2.2
     gd (Nat.ble (n6+1) 2147483648) (
     let n23:=(n6+1)
     let l24:=(l7++(AF (reps 1 [(T.flt .f32 0)]) 0 [(T.flt .f32 x18)]))
     f86.l0 n m n19 l20 i21 i22 (IntKind.i64.wrap (i5 - (1:Int))) n23 l24 b8))) (
    some (n1,l2,i3,i4,n6,l7))
def f86:Nat→Nat→List T→Int→Int→Int→Option (NC)
 | 0,_,_,_,_,_=>none
 | n+1,n1,l2,i3,i4,i5 =>
   bd (f84 n n1 l2 i3 i4 (4:Int)) fun r6 =>
   let b7:=r6.1
   let n8:=r6.2.1
   let l9:=r6.2.2.1
   let i10:=r6.2.2.2.1
   let i11:=r6.2.2.2.2
   bd (f86.l0 n n n8 l9 i10 i11 i5 0 (reps 0 [(T.flt .f32 0)]) b7) fun r12 =>
   let n13:=r12.1
   let l14:=r12.2.1
   let i15:=r12.2.2.1
   let i16:=r12.2.2.2.1
   let n17:=r12.2.2.2.2.1
   let l18:=r12.2.2.2.2.2
   some (n17,l18,n13,l14,i15,i16)
def Rh:By (jZ) where
 pk:=fun (a0,a1,a2,a3,a4,a5,a6,a7)=>[.lst a0 a1,.int a2,.int a3,.int a4,.lst a5 a6,.bool a7]
 up:=fun ls=>match ls with
  | [.lst a0 a1,.int a2,.int a3,.int a4,.lst a5 a6,.bool a7]=>some (a0,a1,a2,a3,a4,a5,a6,a7)
  | _=>none
def f86.l0.P:AS:=⟨[(0,Te),(1,AU),(5,A3),(6,Jm)],0⟩
def f86.l0.A:D7 (YK):=.one (.exit 0) ⟨[(0,Te),(5,A3)],0⟩ N8
def f86.l0.F (n m:Nat) (v:jZ):=let (a,b,c,d,e,f,g,h):=v;f86.l0 n m a b c d e f g h
def f86.l0.W (n:Nat):ER:=.of 48 f86.l0.P Rh f86.l0.A (f86.l0.F n n)
def f86.P:List Ae:=[Kr,CV]
def f86.A:Aa (NC):=.one ⟨[DZ],[some Uj,none]⟩ Cc
def f86.F (n:Nat) (v:cD):=let (a,b,c,d,e):=v;f86 n a b c d e
def f86.O (n:Nat):BJ:=AK (E:=E) [f84.w,f114.w,f113.w] [f86.l0.W n] n
theorem f86.l0.ok:∀ n,E0 86 kZ 0 n (f86.O n):=FC f86.l0.P Rh f86.l0.A f86.l0.F
theorem f86.ok:Bh 86 f86.P Jw f86.A f86.F:=Bi kZ f86.O [Ac kZ 0] (fun n=>(.cons (f86.l0.ok n) .nil))
def f86.w:A7 E:=BQ 86 f86.P Jw f86.A f86.F f86.ok
def f49.l1 (n:Nat):Nat→Nat→List T→Int→Int→Nat→List T→Nat→List T→Nat→List T→Nat→List T→Int→Option (Zy)
 | 0,_,_,_,_,_,_,_,_,_,_,_,_,_=>none
 | m+1,n1,l2,i3,i4,n5,l6,n7,l8,n9,l10,n11,l12,i13 =>
   br (decide (i13>(0:Int))) (
    bd (f83 n n1 l2 i3 i4 (n11:Int)) fun r14 =>
    let i15:=r14.1
    let n16:=r14.2.1
    let l17:=r14.2.2.1
    let i18:=r14.2.2.2.1
    let i19:=r14.2.2.2.2
    bd (f83 n n16 l17 i18 i19 (12:Int)) fun r20 =>
    let i21:=r20.1
    let n22:=r20.2.1
    let l23:=r20.2.2.1
    let i24:=r20.2.2.2.1
    let i25:=r20.2.2.2.2
    bd (f83 n n22 l23 i24 i25 (9:Int)) fun r26 =>
    let i27:=r26.1
    let n28:=r26.2.1
    let l29:=r26.2.2.1
    let i30:=r26.2.2.2.1
    let i31:=r26.2.2.2.2
    bd (f86 n n28 l29 i30 i31 i27) fun r32 =>
    let n33:=r32.1
    let l34:=r32.2.1
    let n35:=r32.2.2.1
    let l36:=r32.2.2.2.1
    let i37:=r32.2.2.2.2.1
    let i38:=r32.2.2.2.2.2
    gd (Nat.ble (n9+1) 2147483648) (
    let n39:=(n9+1)
    let l40:=(l10++(AF (reps 1 [(T.int .i64 (0:Int)),(T.int .i64 (0:Int)),(T.lst 0 [])]) 0 [(T.int .i64 i15),(T.int .i64 i21),(T.lst n33 l34)]))
    f49.l1 n m n35 l36 i37 i38 n5 l6 n7 l8 n39 l40 n11 l12 (IntKind.i64.wrap (i13 - (1:Int))))) (
    some (n1,l2,i3,i4,n5,l6,n7,l8,n9,l10,n11,l12))
termination_by structural x=>x
def f49:Nat→Nat→List T→Int→Int→Option (Tq)
 | 0,_,_,_,_=>none
 | n+1,n1,l2,i3,i4 =>
   bd (f83 n n1 l2 i3 i4 (3:Int)) fun r5 =>
   let i6:=r5.1
   let n7:=r5.2.1
   let l8:=r5.2.2.1
   let i9:=r5.2.2.2.1
   let i10:=r5.2.2.2.2
   bd (f49.l0 n n n7 l8 i9 i10 0 [] 0 [] 0 (reps 0 [(T.int .i64 (0:Int)),(T.int .i64 (0:Int)),(T.lst 0 [])]) 0 (reps 0 [(T.lst 0 []),(T.int .i64 (0:Int)),(T.flt .f32 0),(T.bool false),(T.bool false)]) (IntKind.i64.wrap ((1:Int)+i6))) fun r11 =>
   let n12:=r11.1
   let l13:=r11.2.1
   let i14:=r11.2.2.1
   let i15:=r11.2.2.2.1
   let n16:=r11.2.2.2.2.1
   let l17:=r11.2.2.2.2.2.1
   let n18:=r11.2.2.2.2.2.2.1
   let l19:=r11.2.2.2.2.2.2.2.1
   let n20:=r11.2.2.2.2.2.2.2.2.1
   let l21:=r11.2.2.2.2.2.2.2.2.2.1
   let n22:=r11.2.2.2.2.2.2.2.2.2.2.1
   let l23:=r11.2.2.2.2.2.2.2.2.2.2.2
   bd (f83 n n12 l13 i14 i15 (5:Int)) fun r24 =>
   let i25:=r24.1
   let n26:=r24.2.1
   let l27:=r24.2.2.1
   let i28:=r24.2.2.2.1
   let i29:=r24.2.2.2.2
   bd (f49.l1 n n n26 l27 i28 i29 n16 l17 n18 l19 n20 l21 n22 l23 i25) fun r30 =>
   let n31:=r30.1
   let l32:=r30.2.1
   let i33:=r30.2.2.1
   let i34:=r30.2.2.2.1
   let n39:=r30.2.2.2.2.2.2.2.2.1
   let l40:=r30.2.2.2.2.2.2.2.2.2.1
   let n41:=r30.2.2.2.2.2.2.2.2.2.2.1
   let l42:=r30.2.2.2.2.2.2.2.2.2.2.2
   some (n39,l40,n41,l42,n31,l32,i33,i34)
def Dn:By (Tq) where
 pk:=fun (a0,a1,a2,a3,a4,a5,a6,a7)=>[.lst a0 a1,.lst a2 a3,.lst a4 a5,.int a6,.int a7]
 up:=fun ls=>match ls with
  | [.lst a0 a1,.lst a2 a3,.lst a4 a5,.int a6,.int a7]=>some (a0,a1,a2,a3,a4,a5,a6,a7)
  | _=>none
def HE:By (ff) where
 pk:=fun (a0,a1,a2,a3,a4,a5,a6,a7,a8,a9,a10,a11,a12)=>[.lst a0 a1,.int a2,.int a3,.lst a4 a5,.lst a6 a7,.lst a8 a9,.lst a10 a11,.int a12]
 up:=fun ls=>match ls with
  | [.lst a0 a1,.int a2,.int a3,.lst a4 a5,.lst a6 a7,.lst a8 a9,.lst a10 a11,.int a12]=>some (a0,a1,a2,a3,a4,a5,a6,a7,a8,a9,a10,a11,a12)
  | _=>none
def P9:By (Zy) where
 pk:=fun (a0,a1,a2,a3,a4,a5,a6,a7,a8,a9,a10,a11)=>[.lst a0 a1,.int a2,.int a3,.lst a4 a5,.lst a6 a7,.lst a8 a9,.lst a10 a11]
 up:=fun ls=>match ls with
  | [.lst a0 a1,.int a2,.int a3,.lst a4 a5,.lst a6 a7,.lst a8 a9,.lst a10 a11]=>some (a0,a1,a2,a3,a4,a5,a6,a7,a8,a9,a10,a11)
  | _=>none
def f49.l0.P:AS:=⟨[(0,Te),(2,DR),(3,DR),(4,AU)],0⟩
def f49.l0.A:D7 (Zy):=.one (.exit 0) ⟨[(0,Te),(2,DR),(3,DR)],0⟩ P9
def f49.l0.F (n m:Nat) (v:ff):=let (a,b,c,d,e,f,g,h,i,j,k,l,o):=v;f49.l0 n m a b c d e f g h i j k l o
def f49.l0.W (n:Nat):ER:=.of 48 f49.l0.P HE f49.l0.A (f49.l0.F n n)
def f49.l1.P:AS:=⟨[(0,Te),(2,DR),(3,DR),(6,AU)],0⟩
def f49.l1.A:D7 (Zy):=.one (.exit 2) ⟨[(0,Te),(2,DR),(3,DR)],0⟩ P9
def f49.l1.F (n m:Nat) (v:ff):=let (a,b,c,d,e,f,g,h,i,j,k,l,o):=v;f49.l1 n m a b c d e f g h i j k l o
def f49.l1.W (n:Nat):ER:=.of 192 f49.l1.P HE f49.l1.A (f49.l1.F n n)
def f49.P:List Ae:=[Kr]
def f49.A:Aa (Tq):=.one ⟨[Y2],[some Uj]⟩ Dn
def f49.F (n:Nat) (v:KD):=let (a,b,c,d):=v;f49 n a b c d
def f49.O (n:Nat):BJ:=AK (E:=E) [f83.w,f84.w,f85.w,f86.w] [f49.l0.W n,f49.l1.W n] n
theorem f49.l0.ok:∀ n,E0 49 gU 0 n (f49.O n):=FC f49.l0.P HE f49.l0.A f49.l0.F
theorem f49.l1.ok:∀ n,E0 49 gU 1 n (f49.O n):=FC f49.l1.P HE f49.l1.A f49.l1.F
theorem f49.ok:Bh 49 f49.P B5 f49.A f49.F:=Bi gU f49.O [Ac gU 0,Ac gU 1] (fun n=>(.cons (f49.l0.ok n) (.cons (f49.l1.ok n) .nil)))
def f49.w:A7 E:=BQ 49 f49.P B5 f49.A f49.F f49.ok
def f19:Nat→Nat→List T→Option (Cf)
 | 0,_,_=>none
 | n+1,n1,l2 =>
   bd (f48 n n1 l2) fun r3 =>
   let n4:=r3.1
   let l5:=r3.2.1
   let i6:=r3.2.2.1
   let i7:=r3.2.2.2
   bd (f49 n n4 l5 i6 i7) fun r8 =>
   let n9:=r8.1
   let l10:=r8.2.1
   let n11:=r8.2.2.1
   let l12:=r8.2.2.2.1
   some (n9,l10,n11,l12)
def f19.P:List Ae:=[DT]
def f19.A:Aa (Cf):=.one ⟨[Y2],[none]⟩ Bl
def f19.F (n:Nat) (v:Nat × List T):=f19 n v.1 v.2
def f19.O (n:Nat):BJ:=AK (E:=E) [f48.w,f49.w] [] n
theorem f19.ok:Bh 19 f19.P Bg f19.A f19.F:=Bi mK f19.O
def f19.w:A7 E:=BQ 19 f19.P Bg f19.A f19.F f19.ok
def f20:Nat→Nat→List T→Int→Int→Option (Int)
 | 0,_,_,_,_=>none
 | n+1,n1,l2,i3,i4 =>
   br (decide (i4≤(1:Int))) (
    some (0:Int)) (
    br (decide (i3<(n1:Int))) (
     gd ((decide ((0≤i3)∧(i3<(n1:Int))))&&(AI [(.int .u8)] l2 (Int.toNat i3))) (
     gd (!(decide (i4=(0:Int)))) (
     some (Int.tmod (IntKind.i64.wrap (Ed l2 (Int.toNat i3))) i4)))) (
     gd (!(decide (i4=(0:Int)))) (
     some (Int.tmod (IntKind.i64.wrap ((IntKind.i64.wrap (i3 * (37:Int)))+(11:Int))) i4))))
def f20.P:List Ae:=[DT,CV,CV]
def f20.A:Aa (Int):=.one ⟨[Ns],[none,none,none]⟩ F9
def f20.F (n:Nat) (v:KD):=let (a,b,c,d):=v;f20 n a b c d
def f20.O (n:Nat):BJ:=AK (E:=E) [] [] n
theorem f20.ok:Bh 20 f20.P B5 f20.A f20.F:=Bi lL f20.O
def f20.w:A7 E:=BQ 20 f20.P B5 f20.A f20.F f20.ok
def f58:Nat→Int→Option (Int)
 | 0,_=>none
 | n+1,i1 =>
   some i1
def f58.P:List Ae:=[CV]
def f58.A:Aa (Int):=.one ⟨[Ns],[none]⟩ F9
def f58.F (n:Nat) (v:Int):=f58 n v
def f58.O (n:Nat):BJ:=AK (E:=E) [] [] n
theorem f58.ok:Bh 58 f58.P F9 f58.A f58.F:=Bi lS f58.O
def f58.w:A7 E:=BQ 58 f58.P F9 f58.A f58.F f58.ok
def f92:Nat→Int→Int→Int→Option (Bool)
 | 0,_,_,_=>none
 | n+1,i1,i2,i3 =>
   br (decide (i2≤i1)) (
    some (decide (i1≤i3))) (
    some false)
def R7:By (Int × Int × Int) where
 pk:=fun (a0,a1,a2)=>[.int a0,.int a1,.int a2]
 up:=fun ls=>match ls with
  | [.int a0,.int a1,.int a2]=>some (a0,a1,a2)
  | _=>none
def f92.P:List Ae:=[CV,CV,CV]
def f92.A:Aa (Bool):=.one ⟨[CN],[none,none,none]⟩ C3
def f92.F (n:Nat) (v:Int × Int × Int):=f92 n v.1 v.2.1 v.2.2
def f92.O (n:Nat):BJ:=AK (E:=E) [] [] n
theorem f92.ok:Bh 92 f92.P R7 f92.A f92.F:=Bi kz f92.O
def f92.w:A7 E:=BQ 92 f92.P R7 f92.A f92.F f92.ok
def f87:Nat→Int→Option (Bool)
 | 0,_=>none
 | n+1,i1 =>
   bd (f92 n i1 (1:Int) (8:Int)) fun r2 =>
   let b3:=r2
   some b3
def f87.P:List Ae:=[CV]
def f87.A:Aa (Bool):=.one ⟨[CN],[none]⟩ C3
def f87.F (n:Nat) (v:Int):=f87 n v
def f87.O (n:Nat):BJ:=AK (E:=E) [f92.w] [] n
theorem f87.ok:Bh 87 f87.P F9 f87.A f87.F:=Bi lI f87.O
def f87.w:A7 E:=BQ 87 f87.P F9 f87.A f87.F f87.ok
def f144:Nat→Int→Int→Nat→List T→Int→Int→Int→Option (Bool)
 | 0,_,_,_,_,_,_,_=>none
 | n+1,i1,i2,n3,l4,i5,i6,i7 =>
   bd (f92 n i2 i5 i6) fun r8 =>
   let b9:=r8
   br b9 (
    some ((n3:Int)==i7)) (
    some false)
def Q7:By (iM) where
 pk:=fun (a0,a1,a2,a3,a4,a5,a6)=>[.int a0,.int a1,.lst a2 a3,.int a4,.int a5,.int a6]
 up:=fun ls=>match ls with
  | [.int a0,.int a1,.lst a2 a3,.int a4,.int a5,.int a6]=>some (a0,a1,a2,a3,a4,a5,a6)
  | _=>none
def f144.P:List Ae:=[Zv,CV,CV,CV]
def f144.A:Aa (Bool):=.one ⟨[CN],[none,none,none,none]⟩ C3
def f144.F (n:Nat) (v:iM):=let (a,b,c,d,e,f,g):=v;f144 n a b c d e f g
def f144.O (n:Nat):BJ:=AK (E:=E) [f92.w] [] n
theorem f144.ok:Bh 144 f144.P Q7 f144.A f144.F:=Bi eM f144.O
def f144.w:A7 E:=BQ 144 f144.P Q7 f144.A f144.F f144.ok
def f168:Nat→Nat→Option (Bool)
 | 0,_=>none
 | n+1,x1 =>
   some (Nz .f32 (BW .f32 x1 x1) 0)
def f168.P:List Ae:=[Cx]
def f168.A:Aa (Bool):=.one ⟨[CN],[none]⟩ C3
def f168.F (n:Nat) (v:Nat):=f168 n v
def f168.O (n:Nat):BJ:=AK (E:=E) [] [] n
theorem f168.ok:Bh 168 f168.P BE f168.A f168.F:=Bi gk f168.O
def f168.w:A7 E:=BQ 168 f168.P BE f168.A f168.F f168.ok
def f145:Nat→Nat→Option (Bool)
 | 0,_=>none
 | n+1,x1 =>
   bd (f168 n x1) fun r2 =>
   let b3:=r2
   br b3 (
    some (F4 .f32 x1 0)) (
    some false)
def f145.P:List Ae:=[Cx]
def f145.A:Aa (Bool):=.one ⟨[CN],[none]⟩ C3
def f145.F (n:Nat) (v:Nat):=f145 n v
def f145.O (n:Nat):BJ:=AK (E:=E) [f168.w] [] n
theorem f145.ok:Bh 145 f145.P BE f145.A f145.F:=Bi eW f145.O
def f145.w:A7 E:=BQ 145 f145.P BE f145.A f145.F f145.ok
def f115:Nat→Int→Int→Nat→List T→Option (Bool)
 | 0,_,_,_,_=>none
 | n+1,i1,i2,n3,l4 =>
   br (i1==(0:Int)) (
    br (i1==(0:Int)) (
     bd (f144 n i1 i2 n3 l4 (0:Int) (0:Int) (1:Int)) fun r5 =>
     let b6:=r5
     some b6) (
     br (i1==(1:Int)) (
      bd (f144 n i1 i2 n3 l4 (0:Int) (0:Int) (5:Int)) fun r7 =>
      let b8:=r7
      some b8) (
      br (i1==(2:Int)) (
       bd (f144 n i1 i2 n3 l4 (1:Int) (32:Int) (2:Int)) fun r9 =>
       let b10:=r9
       some b10) (
       br (i1==(3:Int)) (
        bd (f144 n i1 i2 n3 l4 (0:Int) (0:Int) (4:Int)) fun r11 =>
        let b12:=r11
        some b12) (
        br (i1==(5:Int)) (
         bd (f144 n i1 i2 n3 l4 (0:Int) (0:Int) (0:Int)) fun r13 =>
         let b14:=r13
         some b14) (
         br (i1==(6:Int)) (
          bd (f144 n i1 i2 n3 l4 (0:Int) (32:Int) (2:Int)) fun r15 =>
          let b16:=r15
          br b16 (
           gd ((decide ((0≤(0:Int))∧((0:Int)<(n3:Int))))&&(AI [(.flt .f32)] l4 0)) (
           bd (f145 n (BR l4 0)) fun r17 =>
           let b18:=r17
           some b18)) (
           some false)) (
          some false))))))) (
    br (i1==(4:Int)) (
     bd (f144 n i1 i2 n3 l4 (0:Int) (0:Int) (1:Int)) fun r19 =>
     let b20:=r19
     some b20) (
     br (i1==(1:Int)) (
      bd (f144 n i1 i2 n3 l4 (0:Int) (0:Int) (5:Int)) fun r21 =>
      let b22:=r21
      some b22) (
      br (i1==(2:Int)) (
       bd (f144 n i1 i2 n3 l4 (1:Int) (32:Int) (2:Int)) fun r23 =>
       let b24:=r23
       some b24) (
       br (i1==(3:Int)) (
        bd (f144 n i1 i2 n3 l4 (0:Int) (0:Int) (4:Int)) fun r25 =>
        let b26:=r25
        some b26) (
        br (i1==(5:Int)) (
         bd (f144 n i1 i2 n3 l4 (0:Int) (0:Int) (0:Int)) fun r27 =>
         let b28:=r27
         some b28) (
         br (i1==(6:Int)) (
          bd (f144 n i1 i2 n3 l4 (0:Int) (32:Int) (2:Int)) fun r29 =>
          let b30:=r29
          br b30 (
           gd ((decide ((0≤(0:Int))∧((0:Int)<(n3:Int))))&&(AI [(.flt .f32)] l4 0)) (
           bd (f145 n (BR l4 0)) fun r31 =>
           let b32:=r31
           some b32)) (
           some false)) (
          some false)))))))
def Gr:By (Uv) where
 pk:=fun (a0,a1,a2,a3)=>[.int a0,.int a1,.lst a2 a3]
 up:=fun ls=>match ls with
  | [.int a0,.int a1,.lst a2 a3]=>some (a0,a1,a2,a3)
  | _=>none
def f115.P:List Ae:=[Zv]
def f115.A:Aa (Bool):=.one ⟨[CN],[none]⟩ C3
def f115.F (n:Nat) (v:Uv):=let (a,b,c,d):=v;f115 n a b c d
def f115.O (n:Nat):BJ:=AK (E:=E) [f144.w,f145.w] [] n
theorem f115.ok:Bh 115 f115.P Gr f115.A f115.F:=Bi gf f115.O
def f115.w:A7 E:=BQ 115 f115.P Gr f115.A f115.F f115.ok
def f88.l0 (n:Nat):Nat→Nat→List T→Nat→List T→Int→Int→Option ((Bool) ⊕ (Unit))
 | 0,_,_,_,_,_,_=>none
 | m+1,n1,l2,n3,l4,i5,i6 =>
   br (decide (i6<i5)) (
    gd ((decide ((0≤i6)∧(i6<(n3:Int))))&&(AI [(.int .i64),(.int .i64),.lst] l4 (((Int.toNat i6) * 3)+0))) (
    let i7:=(Ed l4 (((Int.toNat i6) * 3)+0))
    let i8:=(Ed l4 ((((Int.toNat i6) * 3)+0)+1))
    let n9:=(GZ l4 (((((Int.toNat i6) * 3)+0)+1)+1))
    let l10:=(HD l4 (((((Int.toNat i6) * 3)+0)+1)+1))
    bd (f115 n i7 i8 n9 l10) fun r11 =>
    let b12:=r11
    br (!b12) (
     some (Sum.inl false)) (
     f88.l0 n m n1 l2 n3 l4 i5 (IntKind.i64.wrap (i6+(1:Int)))))) (
    some (Sum.inr ()))
def f88:Nat→Nat→List T→Option (Bool)
 | 0,_,_=>none
 | n+1,n1,l2 =>
   br (decide ((n1:Int)>(8:Int))) (
    some false) (
    bd (f88.l0 n n n1 l2 n1 l2 (n1:Int) (0:Int)) fun r3 =>
    sm r3 (fun u4 =>
     let b5:=u4
     some b5) (fun u6 =>
     some true))
def sg:By (Unit) where
 pk:=fun v=>[]
 up:=fun ls=>match ls with
  | []=>some ()
  | _=>none
def f88.l0.P:AS:=⟨[(0,Hu),(8,Hu),(9,AU),(10,AU)],0⟩
def f88.l0.A:D7 ((Bool) ⊕ (Unit)):=.or (.one .ret ⟨[(2,Jm)],0⟩ C3) (.one (.exit 0) ⟨[(2,.dead)],0⟩ sg)
def f88.l0.F (n m:Nat) (v:NC):=let (a,b,c,d,e,f):=v;f88.l0 n m a b c d e f
def f88.l0.W (n:Nat):ER:=.of 64 f88.l0.P Cc f88.l0.A (f88.l0.F n n)
def f88.P:List Ae:=[Uh]
def f88.A:Aa (Bool):=.one ⟨[CN],[none]⟩ C3
def f88.F (n:Nat) (v:Nat × List T):=f88 n v.1 v.2
def f88.O (n:Nat):BJ:=AK (E:=E) [f115.w] [f88.l0.W n] n
theorem f88.l0.ok:∀ n,E0 88 iw 0 n (f88.O n):=FC f88.l0.P Cc f88.l0.A f88.l0.F
theorem f88.ok:Bh 88 f88.P Bg f88.A f88.F:=Bi iw f88.O [Ac iw 0] (fun n=>(.cons (f88.l0.ok n) .nil))
def f88.w:A7 E:=BQ 88 f88.P Bg f88.A f88.F f88.ok
def f89:Nat→Int→Option (Bool)
 | 0,_=>none
 | n+1,i1 =>
   bd (f92 n i1 (-2000:Int) (2000:Int)) fun r2 =>
   let b3:=r2
   some b3
def f89.P:List Ae:=[CV]
def f89.A:Aa (Bool):=.one ⟨[CN],[none]⟩ C3
def f89.F (n:Nat) (v:Int):=f89 n v
def f89.O (n:Nat):BJ:=AK (E:=E) [f92.w] [] n
theorem f89.ok:Bh 89 f89.P F9 f89.A f89.F:=Bi mJ f89.O
def f89.w:A7 E:=BQ 89 f89.P F9 f89.A f89.F f89.ok
def f90:Nat→Nat→Option (Bool)
 | 0,_=>none
 | n+1,x1 =>
   br (Ly .f32 x1 0) (
    some (VQ .f32 x1 1065353216)) (
    some false)
def f90.P:List Ae:=[Cx]
def f90.A:Aa (Bool):=.one ⟨[CN],[none]⟩ C3
def f90.F (n:Nat) (v:Nat):=f90 n v
def f90.O (n:Nat):BJ:=AK (E:=E) [] [] n
theorem f90.ok:Bh 90 f90.P BE f90.A f90.F:=Bi lr f90.O
def f90.w:A7 E:=BQ 90 f90.P BE f90.A f90.F f90.ok
def f50.l0 (n:Nat):Nat→Nat→List T→Nat→List T→Nat→List T→Int→Int→Option ((Bool) ⊕ (Cf))
 | 0,_,_,_,_,_,_,_,_=>none
 | m+1,n1,l2,n3,l4,n5,l6,i7,i8 =>
   br (decide (i8<i7)) (
    gd ((decide ((0≤i8)∧(i8<(n5:Int))))&&(AI [.lst,(.int .i64),(.flt .f32),.bool,.bool] l6 (((Int.toNat i8) * 5)+0))) (
    let n9:=(GZ l6 (((Int.toNat i8) * 5)+0))
    let l10:=(HD l6 (((Int.toNat i8) * 5)+0))
    let i11:=(Ed l6 ((((Int.toNat i8) * 5)+0)+1))
    let x12:=(BR l6 (((((Int.toNat i8) * 5)+0)+1)+1))
    let b13:=(KA l6 ((((((Int.toNat i8) * 5)+0)+1)+1)+1))
    let b14:=(KA l6 (((((((Int.toNat i8) * 5)+0)+1)+1)+1)+1))
    bd (f88 n n9 l10) fun r15 =>
    let b16:=r15
    br (!b16) (
     some (Sum.inl false)) (
     bd (f89 n i11) fun r17 =>
     let b18:=r17
     br (!b18) (
      some (Sum.inl false)) (
      bd (f90 n x12) fun r19 =>
      let b20:=r19
      br (!b20) (
       some (Sum.inl false)) (
       f50.l0 n m n1 l2 n3 l4 n5 l6 i7 (IntKind.i64.wrap (i8+(1:Int)))))))) (
    some (Sum.inr (n1,l2,n3,l4)))
def f71:Nat→Int→Int→Option (Bool)
 | 0,_,_=>none
 | n+1,i1,i2 =>
   bd (f92 n i1 (0:Int) (IntKind.i64.wrap (i2 - (1:Int)))) fun r3 =>
   let b4:=r3
   some b4
def T1:By (Int × Int) where
 pk:=fun (a0,a1)=>[.int a0,.int a1]
 up:=fun ls=>match ls with
  | [.int a0,.int a1]=>some (a0,a1)
  | _=>none
def f71.P:List Ae:=[CV,CV]
def f71.A:Aa (Bool):=.one ⟨[CN],[none,none]⟩ C3
def f71.F (n:Nat) (v:Int × Int):=f71 n v.1 v.2
def f71.O (n:Nat):BJ:=AK (E:=E) [f92.w] [] n
theorem f71.ok:Bh 71 f71.P T1 f71.A f71.F:=Bi kv f71.O
def f71.w:A7 E:=BQ 71 f71.P T1 f71.A f71.F f71.ok
def f51:Nat→Int→Option (Bool)
 | 0,_=>none
 | n+1,i1 =>
   bd (f92 n i1 (0:Int) (256:Int)) fun r2 =>
   let b3:=r2
   some b3
def f51.P:List Ae:=[CV]
def f51.A:Aa (Bool):=.one ⟨[CN],[none]⟩ C3
def f51.F (n:Nat) (v:Int):=f51 n v
def f51.O (n:Nat):BJ:=AK (E:=E) [f92.w] [] n
theorem f51.ok:Bh 51 f51.P F9 f51.A f51.F:=Bi mA f51.O
def f51.w:A7 E:=BQ 51 f51.P F9 f51.A f51.F f51.ok
def f91:Nat→Nat→List T→Option (Bool)
 | 0,_,_=>none
 | n+1,n1,l2 =>
   some (decide ((n1:Int)≤(256:Int)))
def f91.P:List Ae:=[DT]
def f91.A:Aa (Bool):=.one ⟨[CN],[none]⟩ C3
def f91.F (n:Nat) (v:Nat × List T):=f91 n v.1 v.2
def f91.O (n:Nat):BJ:=AK (E:=E) [] [] n
theorem f91.ok:Bh 91 f91.P Bg f91.A f91.F:=Bi lN f91.O
def f91.w:A7 E:=BQ 91 f91.P Bg f91.A f91.F f91.ok
def f50.l1 (n:Nat):Nat→Nat→List T→Nat→List T→Nat→List T→Int→Int→Option ((Bool) ⊕ (Unit))
 | 0,_,_,_,_,_,_,_,_=>none
 | m+1,n1,l2,n3,l4,n5,l6,i7,i8 =>
   br (decide (i8<i7)) (
    gd ((decide ((0≤i8)∧(i8<(n5:Int))))&&(AI [(.int .i64),(.int .i64),.lst] l6 (((Int.toNat i8) * 3)+0))) (
    let i9:=(Ed l6 (((Int.toNat i8) * 3)+0))
    let i10:=(Ed l6 ((((Int.toNat i8) * 3)+0)+1))
    let n11:=(GZ l6 (((((Int.toNat i8) * 3)+0)+1)+1))
    let l12:=(HD l6 (((((Int.toNat i8) * 3)+0)+1)+1))
    bd (f71 n i9 (n3:Int)) fun r13 =>
    let b14:=r13
    br (!b14) (
     some (Sum.inl false)) (
     bd (f51 n i10) fun r15 =>
     let b16:=r15
     br (!b16) (
      some (Sum.inl false)) (
      bd (f91 n n11 l12) fun r17 =>
      let b18:=r17
      br (!b18) (
       some (Sum.inl false)) (
       f50.l1 n m n1 l2 n3 l4 n5 l6 i7 (IntKind.i64.wrap (i8+(1:Int)))))))) (
    some (Sum.inr ()))
def f50:Nat→Nat→List T→Nat→List T→Option (Bool)
 | 0,_,_,_,_=>none
 | n+1,n1,l2,n3,l4 =>
   bd (f58 n (n3:Int)) fun r5 =>
   let i6:=r5
   bd (f87 n i6) fun r7 =>
   let b8:=r7
   br (!b8) (
    some false) (
    br (decide ((n1:Int)>(12:Int))) (
     some false) (
     bd (f50.l0 n n n1 l2 n3 l4 n3 l4 (n3:Int) (0:Int)) fun r9 =>
     sm r9 (fun u10 =>
      let b11:=u10
      some b11) (fun u12 =>
      let n13:=u12.1
      let l14:=u12.2.1
      let n15:=u12.2.2.1
      let l16:=u12.2.2.2
      bd (f50.l1 n n n13 l14 n15 l16 n13 l14 (n13:Int) (0:Int)) fun r17 =>
      sm r17 (fun u18 =>
       let b19:=u18
       some b19) (fun u20 =>
       some true))))
def f50.l0.P:AS:=⟨[(1,Ig),(20,cu),(21,AU),(22,AU)],0⟩
def f50.l0.A:D7 ((Bool) ⊕ (Cf)):=.or (.one .ret ⟨[(1,.dead),(2,Jm),(69,.dead)],0⟩ C3) (.one (.exit 0) ⟨[(1,Ig),(2,.dead),(69,.dead)],0⟩ Bl)
def f50.l0.F (n m:Nat) (v:Tq):=let (a,b,c,d,e,f,g,h):=v;f50.l0 n m a b c d e f g h
def f50.l0.W (n:Nat):ER:=.of 64 f50.l0.P Dn f50.l0.A (f50.l0.F n n)
def f50.l1.P:AS:=⟨[(1,Ig),(44,Hu),(45,AU),(46,AU)],0⟩
def f50.l1.A:D7 ((Bool) ⊕ (Unit)):=.or (.one .ret ⟨[(2,Jm)],0⟩ C3) (.one (.exit 2) ⟨[(2,.dead)],0⟩ sg)
def f50.l1.F (n m:Nat) (v:Tq):=let (a,b,c,d,e,f,g,h):=v;f50.l1 n m a b c d e f g h
def f50.l1.W (n:Nat):ER:=.of 160 f50.l1.P Dn f50.l1.A (f50.l1.F n n)
def f50.P:List Ae:=[P8]
def f50.A:Aa (Bool):=.one ⟨[CN],[none]⟩ C3
def f50.F (n:Nat) (v:Cf):=let (a,b,c,d):=v;f50 n a b c d
def f50.O (n:Nat):BJ:=AK (E:=E) [f58.w,f87.w,f88.w,f89.w,f90.w,f71.w,f51.w,f91.w] [f50.l0.W n,f50.l1.W n] n
theorem f50.l0.ok:∀ n,E0 50 eh 0 n (f50.O n):=FC f50.l0.P Dn f50.l0.A f50.l0.F
theorem f50.l1.ok:∀ n,E0 50 eh 1 n (f50.O n):=FC f50.l1.P Dn f50.l1.A f50.l1.F
theorem f50.ok:Bh 50 f50.P Bl f50.A f50.F:=Bi eh f50.O [Ac eh 0,Ac eh 1] (fun n=>(.cons (f50.l0.ok n) (.cons (f50.l1.ok n) .nil)))
def f50.w:A7 E:=BQ 50 f50.P Bl f50.A f50.F f50.ok
def f93:Nat→Int→Option (Nat × List T)
 | 0,_=>none
 | n+1,i1 =>
   gd (decide ((0≤i1)∧(i1≤(2147483648:Int)))) (
   some ((Int.toNat i1),(reps (Int.toNat i1) [(T.flt .f32 0)])))
def f93.P:List Ae:=[CV]
def f93.A:Aa (Nat × List T):=.one ⟨[DZ],[none]⟩ Bg
def f93.F (n:Nat) (v:Int):=f93 n v
def f93.O (n:Nat):BJ:=AK (E:=E) [] [] n
theorem f93.ok:Bh 93 f93.P F9 f93.A f93.F:=Bi mu f93.O
def f93.w:A7 E:=BQ 93 f93.P F9 f93.A f93.F f93.ok
def f109:Nat→Int→Int→Nat→List T→Option (Nat × List T)
 | 0,_,_,_,_=>none
 | n+1,i1,i2,n3,l4 =>
   br (i1==(1:Int)) (
    bd (f93 n (2:Int)) fun r5 =>
    let n6:=r5.1
    let l7:=r5.2
    some (n6,l7)) (
    br (i1==(2:Int)) (
     bd (f93 n i2) fun r8 =>
     let n9:=r8.1
     let l10:=r8.2
     some (n9,l10)) (
     br (i1==(3:Int)) (
      bd (f93 n (1:Int)) fun r11 =>
      let n12:=r11.1
      let l13:=r11.2
      some (n12,l13)) (
      br (i1==(6:Int)) (
       bd (f93 n i2) fun r14 =>
       let n15:=r14.1
       let l16:=r14.2
       gd (Nat.ble (1+n15) 2147483648) (
       some ((1+n15),((AF (reps 1 [(T.flt .f32 0)]) 0 [(T.flt .f32 1065353216)])++l16)))) (
       some (0,[])))))
def f109.P:List Ae:=[Zv]
def f109.A:Aa (Nat × List T):=.one ⟨[DZ],[none]⟩ Bg
def f109.F (n:Nat) (v:Uv):=let (a,b,c,d):=v;f109 n a b c d
def f109.O (n:Nat):BJ:=AK (E:=E) [f93.w] [] n
theorem f109.ok:Bh 109 f109.P Gr f109.A f109.F:=Bi gp f109.O
def f109.w:A7 E:=BQ 109 f109.P Gr f109.A f109.F f109.ok
def f73.l0 (n:Nat):Nat→Nat→List T→Nat→List T→Nat→List T→Int→Int→Option (Nat × List T)
 | 0,_,_,_,_,_,_,_,_=>none
 | m+1,n1,l2,n3,l4,n5,l6,i7,i8 =>
   br (decide (i8<i7)) (
    gd ((decide ((0≤i8)∧(i8<(n5:Int))))&&(AI [(.int .i64),(.int .i64),.lst] l6 (((Int.toNat i8) * 3)+0))) (
    let i9:=(Ed l6 (((Int.toNat i8) * 3)+0))
    let i10:=(Ed l6 ((((Int.toNat i8) * 3)+0)+1))
    let n11:=(GZ l6 (((((Int.toNat i8) * 3)+0)+1)+1))
    let l12:=(HD l6 (((((Int.toNat i8) * 3)+0)+1)+1))
    bd (f109 n i9 i10 n11 l12) fun r13 =>
    let n14:=r13.1
    let l15:=r13.2
    gd (Nat.ble (n3+1) 2147483648) (
    let n16:=(n3+1)
    let l17:=(l4++(AF (reps 1 [(T.lst 0 [])]) 0 [(T.lst n14 l15)]))
    f73.l0 n m n1 l2 n16 l17 n5 l6 i7 (IntKind.i64.wrap (i8+(1:Int)))))) (
    some (n3,l4))
def f73:Nat→Nat→List T→Option (Nat × List T)
 | 0,_,_=>none
 | n+1,n1,l2 =>
   bd (f73.l0 n n n1 l2 0 [] n1 l2 (n1:Int) (0:Int)) fun r3 =>
   let n4:=r3.1
   let l5:=r3.2
   some (n4,l5)
def f73.l0.P:AS:=⟨[(0,Hu),(3,VN),(6,Hu),(7,AU),(8,AU)],0⟩
def f73.l0.A:D7 (Nat × List T):=.one (.exit 0) ⟨[(3,VN)],0⟩ Bg
def f73.l0.F (n m:Nat) (v:Tq):=let (a,b,c,d,e,f,g,h):=v;f73.l0 n m a b c d e f g h
def f73.l0.W (n:Nat):ER:=.of 48 f73.l0.P Dn f73.l0.A (f73.l0.F n n)
def f73.P:List Ae:=[Uh]
def f73.A:Aa (Nat × List T):=.one ⟨[bX],[none]⟩ Bg
def f73.F (n:Nat) (v:Nat × List T):=f73 n v.1 v.2
def f73.O (n:Nat):BJ:=AK (E:=E) [f109.w] [f73.l0.W n] n
theorem f73.l0.ok:∀ n,E0 73 kK 0 n (f73.O n):=FC f73.l0.P Dn f73.l0.A f73.l0.F
theorem f73.ok:Bh 73 f73.P Bg f73.A f73.F:=Bi kK f73.O [Ac kK 0] (fun n=>(.cons (f73.l0.ok n) .nil))
def f73.w:A7 E:=BQ 73 f73.P Bg f73.A f73.F f73.ok
def f57.l1 (n:Nat):Nat→Int→Int→Int→Nat→List T→Nat→List T→Nat→List T→Int→Int→Nat→List T→Nat→List T→Int→Int→Nat→List T→Int→Int→Option (bQ)
 | 0,_,_,_,_,_,_,_,_,_,_,_,_,_,_,_,_,_,_,_,_,_=>none
 | m+1,i1,i2,i3,n4,l5,n6,l7,n8,l9,i10,i11,n12,l13,n14,l15,i16,i17,n18,l19,i20,i21 =>
   br (decide (i21<i20)) (
    gd ((decide ((0≤i21)∧(i21<(n18:Int))))&&(AI [(.flt .f32)] l19 (Int.toNat i21))) (
    let x22:=(BR l19 (Int.toNat i21))
    let i23:=(IntKind.i64.wrap ((IntKind.i64.wrap (i11+i21)) - i2))
    bd (f92 n i23 (0:Int) (IntKind.i64.wrap (i3 - (1:Int)))) fun r24 =>
    let b25:=r24
    br b25 (
     gd (decide ((0≤i23)∧(i23<(n8:Int)))) (
     gd (AI [(.flt .f32)] l9 (Int.toNat i23)) (
     gd (decide ((0≤i23)∧(i23<(n8:Int)))) (
     gd (Nat.ble ((Int.toNat i23)+1) (List.length l9)) (
     let l26:=(AF l9 (Int.toNat i23) [(T.flt .f32 (Au .f32 (BR l9 (Int.toNat i23)) x22))])
     f57.l1 n m i1 i2 i3 n4 l5 n6 l7 n8 l26 i10 i11 n12 l13 n14 l15 i16 i17 n18 l19 i20 (IntKind.i64.wrap (i21+(1:Int)))))))) (
     f57.l1 n m i1 i2 i3 n4 l5 n6 l7 n8 l9 i10 i11 n12 l13 n14 l15 i16 i17 n18 l19 i20 (IntKind.i64.wrap (i21+(1:Int)))))) (
    some (i1,i2,i3,n4,l5,n6,l7,n8,l9,n14,l15,i16,i17))
termination_by structural x=>x
def f57.l0 (n:Nat):Nat→Int→Int→Int→Nat→List T→Nat→List T→Nat→List T→Nat→List T→Int→Int→Option (Nat × List T)
 | 0,_,_,_,_,_,_,_,_,_,_,_,_,_=>none
 | m+1,i1,i2,i3,n4,l5,n6,l7,n8,l9,n10,l11,i12,i13 =>
   br (decide (i13<i12)) (
    gd ((decide ((0≤i13)∧(i13<(n10:Int))))&&(AI [(.int .i64),(.int .i64),.lst] l11 (((Int.toNat i13) * 3)+0))) (
    let i14:=(Ed l11 (((Int.toNat i13) * 3)+0))
    let i15:=(Ed l11 ((((Int.toNat i13) * 3)+0)+1))
    let n16:=(GZ l11 (((((Int.toNat i13) * 3)+0)+1)+1))
    let l17:=(HD l11 (((((Int.toNat i13) * 3)+0)+1)+1))
    br (i14 != i1) (
     f57.l0 n m i1 i2 i3 n4 l5 n6 l7 n8 l9 n10 l11 i12 (IntKind.i64.wrap (i13+(1:Int)))) (
     bd (f57.l1 n n i1 i2 i3 n4 l5 n6 l7 n8 l9 i14 i15 n16 l17 n10 l11 i12 i13 n16 l17 (n16:Int) (0:Int)) fun r18 =>
     let i19:=r18.1
     let i20:=r18.2.1
     let i21:=r18.2.2.1
     let n22:=r18.2.2.2.1
     let l23:=r18.2.2.2.2.1
     let n24:=r18.2.2.2.2.2.1
     let l25:=r18.2.2.2.2.2.2.1
     let n26:=r18.2.2.2.2.2.2.2.1
     let l27:=r18.2.2.2.2.2.2.2.2.1
     let n28:=r18.2.2.2.2.2.2.2.2.2.1
     let l29:=r18.2.2.2.2.2.2.2.2.2.2.1
     let i30:=r18.2.2.2.2.2.2.2.2.2.2.2.1
     let i31:=r18.2.2.2.2.2.2.2.2.2.2.2.2
     f57.l0 n m i19 i20 i21 n22 l23 n24 l25 n26 l27 n28 l29 i30 (IntKind.i64.wrap (i31+(1:Int)))))) (
    some (n8,l9))
termination_by structural x=>x
def f57:Nat→Nat→List T→Nat→List T→Int→Int→Int→Option (Nat × List T)
 | 0,_,_,_,_,_,_,_=>none
 | n+1,n1,l2,n3,l4,i5,i6,i7 =>
   bd (f93 n i7) fun r8 =>
   let n9:=r8.1
   let l10:=r8.2
   bd (f57.l0 n n i5 i6 i7 n1 l2 n3 l4 n9 l10 n1 l2 (n1:Int) (0:Int)) fun r11 =>
   let n12:=r11.1
   let l13:=r11.2
   some (n12,l13)
def H1:By (cL) where
 pk:=fun (a0,a1,a2,a3,a4,a5,a6)=>[.lst a0 a1,.lst a2 a3,.int a4,.int a5,.int a6]
 up:=fun ls=>match ls with
  | [.lst a0 a1,.lst a2 a3,.int a4,.int a5,.int a6]=>some (a0,a1,a2,a3,a4,a5,a6)
  | _=>none
def G1:By (nN) where
 pk:=fun (a0,a1,a2,a3,a4,a5,a6,a7,a8,a9,a10,a11,a12,a13,a14,a15,a16,a17,a18,a19,a20)=>[.int a0,.int a1,.int a2,.lst a3 a4,.lst a5 a6,.lst a7 a8,.int a9,.int a10,.lst a11 a12,.lst a13 a14,.int a15,.int a16,.lst a17 a18,.int a19,.int a20]
 up:=fun ls=>match ls with
  | [.int a0,.int a1,.int a2,.lst a3 a4,.lst a5 a6,.lst a7 a8,.int a9,.int a10,.lst a11 a12,.lst a13 a14,.int a15,.int a16,.lst a17 a18,.int a19,.int a20]=>some (a0,a1,a2,a3,a4,a5,a6,a7,a8,a9,a10,a11,a12,a13,a14,a15,a16,a17,a18,a19,a20)
  | _=>none
def Ib:By (bQ) where
 pk:=fun (a0,a1,a2,a3,a4,a5,a6,a7,a8,a9,a10,a11,a12)=>[.int a0,.int a1,.int a2,.lst a3 a4,.lst a5 a6,.lst a7 a8,.lst a9 a10,.int a11,.int a12]
 up:=fun ls=>match ls with
  | [.int a0,.int a1,.int a2,.lst a3 a4,.lst a5 a6,.lst a7 a8,.lst a9 a10,.int a11,.int a12]=>some (a0,a1,a2,a3,a4,a5,a6,a7,a8,a9,a10,a11,a12)
  | _=>none
def f57.l1.P:AS:=⟨[(1,AU),(2,AU),(3,AU),(4,Ig),(9,A3),(11,.box [.leaf,.leaf,.sl .shr [.leaf]] [.int .i64 0,.int .i64 0,.lst 0 []] [] 0),(18,Hu),(19,AU),(20,AU),(29,DY),(30,AU),(31,AU)],0⟩
def f57.l1.A:D7 (bQ):=.one (.exit 2) ⟨[(1,AU),(2,AU),(3,AU),(4,Ig),(9,A3),(18,Hu),(19,AU),(20,AU),(53,.dead),(54,.dead)],0⟩ Ib
def f57.l1.F (n m:Nat) (v:nN):=let (a,b,c,d,e,f,g,h,i,j,k,l,o,p,q,r,s,t,u,v,w):=v;f57.l1 n m a b c d e f g h i j k l o p q r s t u v w
def f57.l1.W (n:Nat):ER:=.of 112 f57.l1.P G1 f57.l1.A (f57.l1.F n n)
def f57.l0.P:AS:=⟨[(1,AU),(2,AU),(3,AU),(4,Ig),(9,A3),(18,Hu),(19,AU),(20,AU)],0⟩
def f57.l0.A:D7 (Nat × List T):=.one (.exit 0) ⟨[(9,A3)],0⟩ Bg
def f57.l0.F (n m:Nat) (v:bQ):=let (a,b,c,d,e,f,g,h,i,j,k,l,o):=v;f57.l0 n m a b c d e f g h i j k l o
def f57.l0.W (n:Nat):ER:=.of 48 f57.l0.P Ib f57.l0.A (f57.l0.F n n)
def f57.P:List Ae:=[P8,CV,CV,CV]
def f57.A:Aa (Nat × List T):=.one ⟨[DZ],[none,none,none,none]⟩ Bg
def f57.F (n:Nat) (v:cL):=let (a,b,c,d,e,f,g):=v;f57 n a b c d e f g
def f57.O (n:Nat):BJ:=AK (E:=E) [f92.w,f93.w] [f57.l1.W n,f57.l0.W n] n
theorem f57.l1.ok:∀ n,E0 57 fA 1 n (f57.O n):=FC f57.l1.P G1 f57.l1.A f57.l1.F
theorem f57.l0.ok:∀ n,E0 57 fA 0 n (f57.O n):=FC f57.l0.P Ib f57.l0.A f57.l0.F [Ac fA 1] (fun n=>(.cons (f57.l1.ok n) .nil))
theorem f57.ok:Bh 57 f57.P H1 f57.A f57.F:=Bi fA f57.O [Ac fA 0] (fun n=>(.cons (f57.l0.ok n) .nil))
def f57.w:A7 E:=BQ 57 f57.P H1 f57.A f57.F f57.ok
def f79:Nat→Nat→List T→Option (Nat × List T)
 | 0,_,_=>none
 | n+1,n1,l2 =>
   gd (Nat.ble (0+n1) 2147483648) (
   some ((0+n1),((reps 0 [(T.flt .f32 0)])++l2)))
def f79.P:List Ae:=[DT]
def f79.A:Aa (Nat × List T):=.one ⟨[DZ],[none]⟩ Bg
def f79.F (n:Nat) (v:Nat × List T):=f79 n v.1 v.2
def f79.O (n:Nat):BJ:=AK (E:=E) [] [] n
theorem f79.ok:Bh 79 f79.P Bg f79.A f79.F:=Bi k9 f79.O
def f79.w:A7 E:=BQ 79 f79.P Bg f79.A f79.F f79.ok
def f130.l0 (n:Nat):Nat→Nat→List T→Nat→Nat→List T→Nat→List T→Int→Int→Option (Nat × List T)
 | 0,_,_,_,_,_,_,_,_,_=>none
 | m+1,n1,l2,x3,n4,l5,n6,l7,i8,i9 =>
   br (decide (i9<i8)) (
    gd ((decide ((0≤i9)∧(i9<(n6:Int))))&&(AI [(.flt .f32)] l7 (Int.toNat i9))) (
    let x10:=(BR l7 (Int.toNat i9))
    gd (Nat.ble (n4+1) 2147483648) (
    let n11:=(n4+1)
    let l12:=(l5++(AF (reps 1 [(T.flt .f32 0)]) 0 [(T.flt .f32 (AM .f32 x10 x3))]))
    f130.l0 n m n1 l2 x3 n11 l12 n6 l7 i8 (IntKind.i64.wrap (i9+(1:Int)))))) (
    some (n4,l5))
def f130:Nat→Nat→List T→Nat→Option (Nat × List T)
 | 0,_,_,_=>none
 | n+1,n1,l2,x3 =>
   bd (f130.l0 n n n1 l2 x3 0 [] n1 l2 (n1:Int) (0:Int)) fun r4 =>
   let n5:=r4.1
   let l6:=r4.2
   some (n5,l6)
def KK:By (Nat × List T × Nat) where
 pk:=fun (a0,a1,a2)=>[.lst a0 a1,.flt a2]
 up:=fun ls=>match ls with
  | [.lst a0 a1,.flt a2]=>some (a0,a1,a2)
  | _=>none
def Jq:By (gG) where
 pk:=fun (a0,a1,a2,a3,a4,a5,a6,a7,a8)=>[.lst a0 a1,.flt a2,.lst a3 a4,.lst a5 a6,.int a7,.int a8]
 up:=fun ls=>match ls with
  | [.lst a0 a1,.flt a2,.lst a3 a4,.lst a5 a6,.int a7,.int a8]=>some (a0,a1,a2,a3,a4,a5,a6,a7,a8)
  | _=>none
def f130.l0.P:AS:=⟨[(0,DY),(1,Px),(5,A3),(8,DY),(9,AU),(10,AU)],0⟩
def f130.l0.A:D7 (Nat × List T):=.one (.exit 0) ⟨[(5,A3)],0⟩ Bg
def f130.l0.F (n m:Nat) (v:gG):=let (a,b,c,d,e,f,g,h,i):=v;f130.l0 n m a b c d e f g h i
def f130.l0.W (n:Nat):ER:=.of 48 f130.l0.P Jq f130.l0.A (f130.l0.F n n)
def f130.P:List Ae:=[DT,Cx]
def f130.A:Aa (Nat × List T):=.one ⟨[DZ],[none,none]⟩ Bg
def f130.F (n:Nat) (v:Nat × List T × Nat):=f130 n v.1 v.2.1 v.2.2
def f130.O (n:Nat):BJ:=AK (E:=E) [] [f130.l0.W n] n
theorem f130.l0.ok:∀ n,E0 130 Zb 0 n (f130.O n):=FC f130.l0.P Jq f130.l0.A f130.l0.F
theorem f130.ok:Bh 130 f130.P KK f130.A f130.F:=Bi Zb f130.O [Ac Zb 0] (fun n=>(.cons (f130.l0.ok n) .nil))
def f130.w:A7 E:=BQ 130 f130.P KK f130.A f130.F f130.ok
def f160:Nat→Nat→Option (Bool)
 | 0,_=>none
 | n+1,x1 =>
   br (TG .f32 x1 0) (
    br (flt .f32 x1 8388608) (
     some (F4 .f32 x1 2155872256)) (
     some false)) (
    some false)
def f160.P:List Ae:=[Cx]
def f160.A:Aa (Bool):=.one ⟨[CN],[none]⟩ C3
def f160.F (n:Nat) (v:Nat):=f160 n v
def f160.O (n:Nat):BJ:=AK (E:=E) [] [] n
theorem f160.ok:Bh 160 f160.P BE f160.A f160.F:=Bi eL f160.O
def f160.w:A7 E:=BQ 160 f160.P BE f160.A f160.F f160.ok
def f133:Nat→Nat→Option (Nat)
 | 0,_=>none
 | n+1,x1 =>
   bd (f160 n x1) fun r2 =>
   let b3:=r2
   br (!b3) (
    some x1) (
    bd ((Ar .f32 x1 .f64)) fun y4 =>
    bd (FM n 0 y4) fun r5 =>
    let x6:=r5
    bd ((Ar .f64 x6 .f32)) fun y7 =>
    some y7)
def f133.P:List Ae:=[Cx]
def f133.A:Aa (Nat):=.one ⟨[Fh],[none]⟩ BE
def f133.F (n:Nat) (v:Nat):=f133 n v
def f133.O (n:Nat):BJ:=AK (E:=E) [x161.w,f160.w] [] n
theorem f133.ok:Bh 133 f133.P BE f133.A f133.F:=Bi dZ f133.O
def f133.w:A7 E:=BQ 133 f133.P BE f133.A f133.F f133.ok
def f173:Nat→Nat→Bool→Option (Nat)
 | 0,_,_=>none
 | n+1,x1,b2 =>
   br b2 (
    bd (f133 n x1) fun r3 =>
    let x4:=r3
    some x4) (
    some x1)
def To:By (Nat × Bool) where
 pk:=fun (a0,a1)=>[.flt a0,.bool a1]
 up:=fun ls=>match ls with
  | [.flt a0,.bool a1]=>some (a0,a1)
  | _=>none
def f173.P:List Ae:=[Cx,U3]
def f173.A:Aa (Nat):=.one ⟨[Fh],[none,none]⟩ BE
def f173.F (n:Nat) (v:Nat × Bool):=f173 n v.1 v.2
def f173.O (n:Nat):BJ:=AK (E:=E) [f133.w] [] n
theorem f173.ok:Bh 173 f173.P To f173.A f173.F:=Bi fP f173.O
def f173.w:A7 E:=BQ 173 f173.P To f173.A f173.F f173.ok
def f159:Nat→Nat→Nat→Nat→Nat→Nat→Int→Bool→Nat→Nat→Nat→Nat→Nat→Option (Xs)
 | 0,_,_,_,_,_,_,_,_,_,_,_,_=>none
 | n+1,x1,x2,x3,x4,x5,i6,b7,x8,x9,x10,x11,x12 =>
   br (i6==(0:Int)) (
    let x13:=(BW .f32 (BW .f32 (Au .f32 (Au .f32 (AM .f32 x1 x12) (AM .f32 x2 x8)) (AM .f32 x3 x9)) (AM .f32 x4 x10)) (AM .f32 x5 x11))
    bd (f173 n x13 b7) fun r14 =>
    let x15:=r14
    bd (f173 n x12 b7) fun r16 =>
    let x17:=r16
    bd (f173 n x8 b7) fun r18 =>
    let x19:=r18
    bd (f173 n x15 b7) fun r20 =>
    let x21:=r20
    bd (f173 n x10 b7) fun r22 =>
    let x23:=r22
    some (x15,x17,x19,x21,x23)) (
    br (i6==(1:Int)) (
     bd (f173 n (Au .f32 (AM .f32 x1 x12) x8) b7) fun r24 =>
     let x25:=r24
     let x26:=(Au .f32 (BW .f32 (AM .f32 x2 x12) (AM .f32 x4 x25)) x9)
     let x27:=(BW .f32 (AM .f32 x3 x12) (AM .f32 x5 x25))
     bd (f173 n x26 b7) fun r28 =>
     let x29:=r28
     bd (f173 n x27 b7) fun r30 =>
     let x31:=r30
     bd (f173 n 0 b7) fun r32 =>
     let x33:=r32
     bd (f173 n 0 b7) fun r34 =>
     let x35:=r34
     some (x25,x29,x31,x33,x35)) (
     bd (f173 n (BW .f32 (BW .f32 x12 (AM .f32 x4 x8)) (AM .f32 x5 x9)) b7) fun r36 =>
     let x37:=r36
     bd (f173 n (Au .f32 (Au .f32 (AM .f32 x1 x37) (AM .f32 x2 x8)) (AM .f32 x3 x9)) b7) fun r38 =>
     let x39:=r38
     bd (f173 n x37 b7) fun r40 =>
     let x41:=r40
     bd (f173 n x8 b7) fun r42 =>
     let x43:=r42
     bd (f173 n 0 b7) fun r44 =>
     let x45:=r44
     bd (f173 n 0 b7) fun r46 =>
     let x47:=r46
     some (x39,x41,x43,x45,x47)))
def EJ:By (dh) where
 pk:=fun (a0,a1,a2,a3,a4,a5,a6,a7,a8,a9,a10,a11)=>[.flt a0,.flt a1,.flt a2,.flt a3,.flt a4,.int a5,.bool a6,.flt a7,.flt a8,.flt a9,.flt a10,.flt a11]
 up:=fun ls=>match ls with
  | [.flt a0,.flt a1,.flt a2,.flt a3,.flt a4,.int a5,.bool a6,.flt a7,.flt a8,.flt a9,.flt a10,.flt a11]=>some (a0,a1,a2,a3,a4,a5,a6,a7,a8,a9,a10,a11)
  | _=>none
def Lj:By (Xs) where
 pk:=fun (a0,a1,a2,a3,a4)=>[.flt a0,.flt a1,.flt a2,.flt a3,.flt a4]
 up:=fun ls=>match ls with
  | [.flt a0,.flt a1,.flt a2,.flt a3,.flt a4]=>some (a0,a1,a2,a3,a4)
  | _=>none
def f159.P:List Ae:=[Z9,CV,U3,cR,Cx]
def f159.A:Aa (Xs):=.one ⟨[Fh,j3],[none,none,none,none,none]⟩ Lj
def f159.F (n:Nat) (v:dh):=let (a,b,c,d,e,f,g,h,i,j,k,l):=v;f159 n a b c d e f g h i j k l
def f159.O (n:Nat):BJ:=AK (E:=E) [f173.w] [] n
theorem f159.ok:Bh 159 f159.P EJ f159.A f159.F:=Bi du f159.O
def f159.w:A7 E:=BQ 159 f159.P EJ f159.A f159.F f159.ok
def f131.l0 (n:Nat):Nat→Int→Bool→Nat→List T→Nat→Nat→Nat→Nat→Nat→Nat→Nat→Nat→Nat→Nat→Nat→Nat→Nat→Nat→List T→Nat→List T→Int→Int→Option (Yt)
 | 0,_,_,_,_,_,_,_,_,_,_,_,_,_,_,_,_,_,_,_,_,_,_,_=>none
 | m+1,i1,b2,n3,l4,x5,x6,x7,x8,x9,x10,x11,x12,x13,x14,x15,x16,x17,n18,l19,n20,l21,i22,i23 =>
   br (decide (i23<i22)) (
    gd ((decide ((0≤i23)∧(i23<(n20:Int))))&&(AI [(.flt .f32)] l21 (Int.toNat i23))) (
    let x24:=(BR l21 (Int.toNat i23))
    bd (f159 n x5 x6 x7 x8 x9 i1 b2 x10 x11 x12 x13 x24) fun r25 =>
    let x26:=r25.1
    let x27:=r25.2.1
    let x28:=r25.2.2.1
    let x29:=r25.2.2.2.1
    let x30:=r25.2.2.2.2
    gd (Nat.ble (n18+1) 2147483648) (
    let n31:=(n18+1)
    let l32:=(l19++(AF (reps 1 [(T.flt .f32 0)]) 0 [(T.flt .f32 x26)]))
    f131.l0 n m i1 b2 n3 l4 x5 x6 x7 x8 x9 x27 x28 x29 x30 x14 x15 x16 x17 n31 l32 n20 l21 i22 (IntKind.i64.wrap (i23+(1:Int)))))) (
    some (x10,x11,x12,x13,x14,x15,x16,x17,n18,l19))
termination_by structural x=>x
def f131:Nat→Nat→Nat→Nat→Nat→Nat→Int→Bool→Nat→Nat→Nat→Nat→Nat→List T→Option (aR)
 | 0,_,_,_,_,_,_,_,_,_,_,_,_,_=>none
 | n+1,x1,x2,x3,x4,x5,i6,b7,x8,x9,x10,x11,n12,l13 =>
   bd (f131.l0 n n i6 b7 n12 l13 x1 x2 x3 x4 x5 x8 x9 x10 x11 0 0 0 0 0 [] n12 l13 (n12:Int) (0:Int)) fun r14 =>
   let x15:=r14.1
   let x16:=r14.2.1
   let x17:=r14.2.2.1
   let x18:=r14.2.2.2.1
   let n23:=r14.2.2.2.2.2.2.2.2.1
   let l24:=r14.2.2.2.2.2.2.2.2.2
   some (n23,l24,x15,x16,x17,x18)
def EL:By (fJ) where
 pk:=fun (a0,a1,a2,a3,a4,a5,a6,a7,a8,a9,a10,a11,a12)=>[.flt a0,.flt a1,.flt a2,.flt a3,.flt a4,.int a5,.bool a6,.flt a7,.flt a8,.flt a9,.flt a10,.lst a11 a12]
 up:=fun ls=>match ls with
  | [.flt a0,.flt a1,.flt a2,.flt a3,.flt a4,.int a5,.bool a6,.flt a7,.flt a8,.flt a9,.flt a10,.lst a11 a12]=>some (a0,a1,a2,a3,a4,a5,a6,a7,a8,a9,a10,a11,a12)
  | _=>none
def U6:By (aR) where
 pk:=fun (a0,a1,a2,a3,a4,a5)=>[.lst a0 a1,.flt a2,.flt a3,.flt a4,.flt a5]
 up:=fun ls=>match ls with
  | [.lst a0 a1,.flt a2,.flt a3,.flt a4,.flt a5]=>some (a0,a1,a2,a3,a4,a5)
  | _=>none
def Ee:By (nb) where
 pk:=fun (a0,a1,a2,a3,a4,a5,a6,a7,a8,a9,a10,a11,a12,a13,a14,a15,a16,a17,a18,a19,a20,a21,a22)=>[.int a0,.bool a1,.lst a2 a3,.flt a4,.flt a5,.flt a6,.flt a7,.flt a8,.flt a9,.flt a10,.flt a11,.flt a12,.flt a13,.flt a14,.flt a15,.flt a16,.lst a17 a18,.lst a19 a20,.int a21,.int a22]
 up:=fun ls=>match ls with
  | [.int a0,.bool a1,.lst a2 a3,.flt a4,.flt a5,.flt a6,.flt a7,.flt a8,.flt a9,.flt a10,.flt a11,.flt a12,.flt a13,.flt a14,.flt a15,.flt a16,.lst a17 a18,.lst a19 a20,.int a21,.int a22]=>some (a0,a1,a2,a3,a4,a5,a6,a7,a8,a9,a10,a11,a12,a13,a14,a15,a16,a17,a18,a19,a20,a21,a22)
  | _=>none
def L9:By (Yt) where
 pk:=fun (a0,a1,a2,a3,a4,a5,a6,a7,a8,a9)=>[.flt a0,.flt a1,.flt a2,.flt a3,.flt a4,.flt a5,.flt a6,.flt a7,.lst a8 a9]
 up:=fun ls=>match ls with
  | [.flt a0,.flt a1,.flt a2,.flt a3,.flt a4,.flt a5,.flt a6,.flt a7,.lst a8 a9]=>some (a0,a1,a2,a3,a4,a5,a6,a7,a8,a9)
  | _=>none
def f131.l0.P:AS:=⟨[(1,AU),(2,Jm),(4,DY),(5,Ss),(8,UL),(11,UL),(12,A3),(17,DY),(18,AU),(19,AU)],0⟩
def f131.l0.A:D7 (Yt):=.one (.exit 0) ⟨[(8,UL),(11,UL),(12,A3)],0⟩ L9
def f131.l0.F (n m:Nat) (v:nb):=let (a,b,c,d,e,f,g,h,i,j,k,l,o,p,q,r,s,t,u,v,w,x,y):=v;f131.l0 n m a b c d e f g h i j k l o p q r s t u v w x y
def f131.l0.W (n:Nat):ER:=.of 48 f131.l0.P Ee f131.l0.A (f131.l0.F n n)
def f131.P:List Ae:=[Z9,CV,U3,cR,DT]
def f131.A:Aa (aR):=.one ⟨[DZ,j3],[none,none,none,none,none]⟩ U6
def f131.F (n:Nat) (v:fJ):=let (a,b,c,d,e,f,g,h,i,j,k,l,o):=v;f131 n a b c d e f g h i j k l o
def f131.O (n:Nat):BJ:=AK (E:=E) [f159.w] [f131.l0.W n] n
theorem f131.l0.ok:∀ n,E0 131 Zf 0 n (f131.O n):=FC f131.l0.P Ee f131.l0.A f131.l0.F
theorem f131.ok:Bh 131 f131.P EL f131.A f131.F:=Bi Zf f131.O [Ac Zf 0] (fun n=>(.cons (f131.l0.ok n) .nil))
def f131.w:A7 E:=BQ 131 f131.P EL f131.A f131.F f131.ok
def f132:Nat→Nat→List T→Nat→Option (Nat × List T)
 | 0,_,_,_=>none
 | n+1,n1,l2,x3 =>
   gd (decide ((0≤(1:Int))∧(((1:Int)≤(n1:Int))∧((n1:Int)≤(n1:Int))))) (
   bd (f79 n (n1 - 1) (List.take (n1 - 1) (List.drop 1 l2))) fun r4 =>
   let n5:=r4.1
   let l6:=r4.2
   gd (Nat.ble (n5+1) 2147483648) (
   some ((n5+1),(l6++(AF (reps 1 [(T.flt .f32 0)]) 0 [(T.flt .f32 x3)])))))
def f132.P:List Ae:=[DT,Cx]
def f132.A:Aa (Nat × List T):=.one ⟨[DZ],[none,none]⟩ Bg
def f132.F (n:Nat) (v:Nat × List T × Nat):=f132 n v.1 v.2.1 v.2.2
def f132.O (n:Nat):BJ:=AK (E:=E) [f79.w] [] n
theorem f132.ok:Bh 132 f132.P KK f132.A f132.F:=Bi gh f132.O
def f132.w:A7 E:=BQ 132 f132.P KK f132.A f132.F f132.ok
def f108.l0 (n:Nat):Nat→Nat→List T→Nat→List T→Nat→List T→Nat→List T→Nat→List T→Int→Int→Option (Cf)
 | 0,_,_,_,_,_,_,_,_,_,_,_,_=>none
 | m+1,n1,l2,n3,l4,n5,l6,n7,l8,n9,l10,i11,i12 =>
   br (decide (i12<i11)) (
    gd ((decide ((0≤i12)∧(i12<(n9:Int))))&&(AI [(.flt .f32)] l10 (Int.toNat i12))) (
    let x13:=(BR l10 (Int.toNat i12))
    gd (decide ((0≤(0:Int))∧((0:Int)<(n5:Int)))) (
    gd (AI [(.flt .f32)] l6 0) (
    let x14:=(BR l6 0)
    gd ((decide ((0≤(1:Int))∧((1:Int)<(n3:Int))))&&(AI [(.flt .f32)] l4 1)) (
    gd (Nat.ble (n7+1) 2147483648) (
    let n15:=(n7+1)
    let l16:=(l8++(AF (reps 1 [(T.flt .f32 0)]) 0 [(T.flt .f32 (Au .f32 x13 (AM .f32 (BR l4 1) x14)))]))
    gd ((decide ((0≤(0:Int))∧((0:Int)<(n3:Int))))&&(AI [(.flt .f32)] l4 0)) (
    bd (f133 n (Au .f32 x13 (AM .f32 (BR l4 0) x14))) fun r17 =>
    let x18:=r17
    bd (f132 n n5 l6 x18) fun r19 =>
    let n20:=r19.1
    let l21:=r19.2
    f108.l0 n m n1 l2 n3 l4 n20 l21 n15 l16 n9 l10 i11 (IntKind.i64.wrap (i12+(1:Int)))))))))) (
    some (n5,l6,n7,l8))
termination_by structural x=>x
def f177:Nat→Nat→Option (Nat)
 | 0,_=>none
 | n+1,x1 =>
   bd ((Ar .f32 x1 .f64)) fun y2 =>
   bd (Qo n y2) fun r3 =>
   let x4:=r3
   bd ((Ar .f64 x4 .f32)) fun y5 =>
   some y5
def f177.P:List Ae:=[Cx]
def f177.A:Aa (Nat):=.one ⟨[Fh],[none]⟩ BE
def f177.F (n:Nat) (v:Nat):=f177 n v
def f177.O (n:Nat):BJ:=AK (E:=E) [x170.w] [] n
theorem f177.ok:Bh 177 f177.P BE f177.A f177.F:=Bi gJ f177.O
def f177.w:A7 E:=BQ 177 f177.P BE f177.A f177.F f177.ok
def f175:Nat→Nat→Nat→Nat→Nat→Option (Nat × Nat × Nat)
 | 0,_,_,_,_=>none
 | n+1,x1,x2,x3,x4 =>
   bd (f177 n x4) fun r5 =>
   let x6:=r5
   br (F4 .f32 x6 x3) (
    bd (f133 n (Au .f32 x3 (AM .f32 x1 (BW .f32 x6 x3)))) fun r7 =>
    let x8:=r7
    some (x1,x2,x8)) (
    bd (f133 n (Au .f32 x3 (AM .f32 x2 (BW .f32 x6 x3)))) fun r9 =>
    let x10:=r9
    some (x1,x2,x10))
def Wh:By (Nat × Nat × Nat × Nat) where
 pk:=fun (a0,a1,a2,a3)=>[.flt a0,.flt a1,.flt a2,.flt a3]
 up:=fun ls=>match ls with
  | [.flt a0,.flt a1,.flt a2,.flt a3]=>some (a0,a1,a2,a3)
  | _=>none
def K4:By (Nat × Nat × Nat) where
 pk:=fun (a0,a1,a2)=>[.flt a0,.flt a1,.flt a2]
 up:=fun ls=>match ls with
  | [.flt a0,.flt a1,.flt a2]=>some (a0,a1,a2)
  | _=>none
def f175.P:List Ae:=[⟨.iop,⟨false,[.rf .own [.leaf,.leaf,.leaf]],[.ref [.flt .f32 0,.flt .f32 0,.flt .f32 0]]⟩⟩,Cx]
def f175.A:Aa (Nat × Nat × Nat):=.one ⟨[],[some ⟨false,[.rf .own [.leaf,.leaf,.leaf]],[.ref [.flt .f32 0,.flt .f32 0,.flt .f32 0]]⟩,none]⟩ K4
def f175.F (n:Nat) (v:Nat × Nat × Nat × Nat):=let (a,b,c,d):=v;f175 n a b c d
def f175.O (n:Nat):BJ:=AK (E:=E) [f133.w,f177.w] [] n
theorem f175.ok:Bh 175 f175.P Wh f175.A f175.F:=Bi ga f175.O
def f175.w:A7 E:=BQ 175 f175.P Wh f175.A f175.F f175.ok
def f176:Nat→Nat→Nat→Nat→Option (Nat)
 | 0,_,_,_=>none
 | n+1,x1,x2,x3 =>
   br (!(F4 .f32 x1 x2)) (
    some 1065353216) (
    some (fdiv .f32 (Au .f32 x2 (fdiv .f32 (BW .f32 x1 x2) x3)) x1))
def f176.P:List Ae:=[Cx,Cx,Cx]
def f176.A:Aa (Nat):=.one ⟨[Fh],[none,none,none]⟩ BE
def f176.F (n:Nat) (v:Nat × Nat × Nat):=f176 n v.1 v.2.1 v.2.2
def f176.O (n:Nat):BJ:=AK (E:=E) [] [] n
theorem f176.ok:Bh 176 f176.P K4 f176.A f176.F:=Bi di f176.O
def f176.w:A7 E:=BQ 176 f176.P K4 f176.A f176.F f176.ok
def f162.l0 (n:Nat):Nat→Nat→List T→Nat→List T→Nat→Nat→Nat→Nat→Nat→Nat→Nat→Nat→Nat→Nat→Nat→List T→Nat→List T→Int→Int→Option (Yo)
 | 0,_,_,_,_,_,_,_,_,_,_,_,_,_,_,_,_,_,_,_,_=>none
 | m+1,n1,l2,n3,l4,x5,x6,x7,x8,x9,x10,x11,x12,x13,x14,n15,l16,n17,l18,i19,i20 =>
   br (decide (i20<i19)) (
    gd ((decide ((0≤i20)∧(i20<(n17:Int))))&&(AI [(.flt .f32)] l18 (Int.toNat i20))) (
    let x21:=(BR l18 (Int.toNat i20))
    gd ((decide ((0≤i20)∧(i20<(n3:Int))))&&(AI [(.flt .f32)] l4 (Int.toNat i20))) (
    bd (f175 n x5 x6 x7 (BR l4 (Int.toNat i20))) fun r22 =>
    let x23:=r22.1
    let x24:=r22.2.1
    let x25:=r22.2.2
    bd (f176 n x25 x8 x9) fun r26 =>
    let x27:=r26
    gd (Nat.ble (n15+1) 2147483648) (
    let n28:=(n15+1)
    let l29:=(l16++(AF (reps 1 [(T.flt .f32 0)]) 0 [(T.flt .f32 (AM .f32 x21 x27))]))
    f162.l0 n m n1 l2 n3 l4 x23 x24 x25 x8 x9 x10 x11 x12 x13 x14 n28 l29 n17 l18 i19 (IntKind.i64.wrap (i20+(1:Int))))))) (
    some (x5,x6,x7,x8,x9,x10,x11,x12,x13,x14,n15,l16))
termination_by structural x=>x
def f162:Nat→Nat→Nat→Nat→Nat→Nat→Nat→List T→Nat→List T→Option (Zu)
 | 0,_,_,_,_,_,_,_,_,_=>none
 | n+1,x1,x2,x3,x4,x5,n6,l7,n8,l9 =>
   bd (f91 n n6 l7) fun r10 =>
   let b11:=r10
   br (!b11) (
    some (0,[],0,0,0,0,0,false)) (
    br ((n8:Int) != (n6:Int)) (
     some (0,[],0,0,0,0,0,false)) (
     bd (f162.l0 n n n6 l7 n8 l9 x1 x2 x3 x4 x5 0 0 0 0 0 0 [] n6 l7 (n6:Int) (0:Int)) fun r12 =>
     let x13:=r12.1
     let x14:=r12.2.1
     let x15:=r12.2.2.1
     let x16:=r12.2.2.2.1
     let x17:=r12.2.2.2.2.1
     let n23:=r12.2.2.2.2.2.2.2.2.2.2.1
     let l24:=r12.2.2.2.2.2.2.2.2.2.2.2
     some (n23,l24,x13,x14,x15,x16,x17,true)))
def II:By (dq) where
 pk:=fun (a0,a1,a2,a3,a4,a5,a6,a7,a8)=>[.flt a0,.flt a1,.flt a2,.flt a3,.flt a4,.lst a5 a6,.lst a7 a8]
 up:=fun ls=>match ls with
  | [.flt a0,.flt a1,.flt a2,.flt a3,.flt a4,.lst a5 a6,.lst a7 a8]=>some (a0,a1,a2,a3,a4,a5,a6,a7,a8)
  | _=>none
def P6:By (Zu) where
 pk:=fun (a0,a1,a2,a3,a4,a5,a6,a7)=>[.lst a0 a1,.flt a2,.flt a3,.flt a4,.flt a5,.flt a6,.bool a7]
 up:=fun ls=>match ls with
  | [.lst a0 a1,.flt a2,.flt a3,.flt a4,.flt a5,.flt a6,.bool a7]=>some (a0,a1,a2,a3,a4,a5,a6,a7)
  | _=>none
def GE:By (nM) where
 pk:=fun (a0,a1,a2,a3,a4,a5,a6,a7,a8,a9,a10,a11,a12,a13,a14,a15,a16,a17,a18,a19)=>[.lst a0 a1,.lst a2 a3,.flt a4,.flt a5,.flt a6,.flt a7,.flt a8,.flt a9,.flt a10,.flt a11,.flt a12,.flt a13,.lst a14 a15,.lst a16 a17,.int a18,.int a19]
 up:=fun ls=>match ls with
  | [.lst a0 a1,.lst a2 a3,.flt a4,.flt a5,.flt a6,.flt a7,.flt a8,.flt a9,.flt a10,.flt a11,.flt a12,.flt a13,.lst a14 a15,.lst a16 a17,.int a18,.int a19]=>some (a0,a1,a2,a3,a4,a5,a6,a7,a8,a9,a10,a11,a12,a13,a14,a15,a16,a17,a18,a19)
  | _=>none
def I6:By (Yo) where
 pk:=fun (a0,a1,a2,a3,a4,a5,a6,a7,a8,a9,a10,a11)=>[.flt a0,.flt a1,.flt a2,.flt a3,.flt a4,.flt a5,.flt a6,.flt a7,.flt a8,.flt a9,.lst a10 a11]
 up:=fun ls=>match ls with
  | [.flt a0,.flt a1,.flt a2,.flt a3,.flt a4,.flt a5,.flt a6,.flt a7,.flt a8,.flt a9,.lst a10 a11]=>some (a0,a1,a2,a3,a4,a5,a6,a7,a8,a9,a10,a11)
  | _=>none
def f162.l0.P:AS:=⟨[(1,DY),(2,DY),(3,Ss),(7,Ss),(9,A3),(23,DY),(24,AU),(25,AU)],0⟩
def f162.l0.A:D7 (Yo):=.one (.exit 0) ⟨[(3,Ss),(7,Ss),(9,A3)],0⟩ I6
def f162.l0.F (n m:Nat) (v:nM):=let (a,b,c,d,e,f,g,h,i,j,k,l,o,p,q,r,s,t,u,v):=v;f162.l0 n m a b c d e f g h i j k l o p q r s t u v
def f162.l0.W (n:Nat):ER:=.of 80 f162.l0.P GE f162.l0.A (f162.l0.F n n)
def f162.P:List Ae:=[Z9,DT,DT]
def f162.A:Aa (Zu):=.one ⟨[DZ,gz,CN],[none,none,none]⟩ P6
def f162.F (n:Nat) (v:dq):=let (a,b,c,d,e,f,g,h,i):=v;f162 n a b c d e f g h i
def f162.O (n:Nat):BJ:=AK (E:=E) [f91.w,f175.w,f176.w] [f162.l0.W n] n
theorem f162.l0.ok:∀ n,E0 162 aA 0 n (f162.O n):=FC f162.l0.P GE f162.l0.A f162.l0.F
theorem f162.ok:Bh 162 f162.P II f162.A f162.F:=Bi aA f162.O [Ac aA 0] (fun n=>(.cons (f162.l0.ok n) .nil))
def f162.w:A7 E:=BQ 162 f162.P II f162.A f162.F f162.ok
def f134:Nat→Nat→Nat→Nat→Nat→Nat→Nat→List T→Option (Zu)
 | 0,_,_,_,_,_,_,_=>none
 | n+1,x1,x2,x3,x4,x5,n6,l7 =>
   bd (f162 n x1 x2 x3 x4 x5 n6 l7 n6 l7) fun r8 =>
   let n9:=r8.1
   let l10:=r8.2.1
   let x11:=r8.2.2.1
   let x12:=r8.2.2.2.1
   let x13:=r8.2.2.2.2.1
   let x14:=r8.2.2.2.2.2.1
   let x15:=r8.2.2.2.2.2.2.1
   let b16:=r8.2.2.2.2.2.2.2
   some (n9,l10,x11,x12,x13,x14,x15,b16)
def RX:By (ju) where
 pk:=fun (a0,a1,a2,a3,a4,a5,a6)=>[.flt a0,.flt a1,.flt a2,.flt a3,.flt a4,.lst a5 a6]
 up:=fun ls=>match ls with
  | [.flt a0,.flt a1,.flt a2,.flt a3,.flt a4,.lst a5 a6]=>some (a0,a1,a2,a3,a4,a5,a6)
  | _=>none
def f134.P:List Ae:=[Z9,DT]
def f134.A:Aa (Zu):=.one ⟨[DZ,gz,CN],[none,none]⟩ P6
def f134.F (n:Nat) (v:ju):=let (a,b,c,d,e,f,g):=v;f134 n a b c d e f g
def f134.O (n:Nat):BJ:=AK (E:=E) [f162.w] [] n
end Go.Proofs.YtdobhipbgpiceaaGreat.D
end
