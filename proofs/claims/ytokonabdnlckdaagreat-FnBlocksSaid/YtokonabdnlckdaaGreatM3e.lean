/- FnBlocks holds: for every input the law returns true, and its arguments read as before. -/
import Derived.Test.YtokonabdnlckdaaGreatChecked
import Derived.KernelRfl
import Derived.Shelf.SlicesE.Kit
import Derived.Shelf.RegionOpenPlain
import Derived.WalkKit
import Derived.Deep.LoopGhost
import Derived.Deep.RegionLaw
import Derived.Deep.MidRow
import Derived.Lib.Walk
import Derived.Sort.WalkB12
import Derived.Lib.SliceRun
import Derived.Lib.SlicesDelete
import Derived.Lib.SlicesMore
import Derived.Lib.SlicesCompact
import Derived.Shelf.Spec.SlicesInsertGrow
import Derived.Test.YtokonabdnlckdaaGreatRows
import Derived.ProofKit
import Derived.OpenShut
import Derived.ShutString
import Derived.ChangeOld
import Derived.Below
import Derived.SizedLaws
import Derived.Test.YtokonabdnlckdaaGreatM3d
set_option linter.all false
set_option linter.unusedVariables false
open List (all_cons all_eq_true any_eq_false any_eq_true append_assoc append_nil cons_append count_append drop_drop drop_eq_getElem_cons drop_eq_nil_of_le drop_left' drop_zero flatMap_append flatMap_cons flatMap_def flatMap_singleton flatten_cons flatten_nil foldl_cons length_cons length_drop length_eq_one_iff length_eq_zero_iff length_map length_nil length_set length_singleton length_take mapM_cons map_append map_congr_left map_cons map_nil mem_append mem_append_left mem_append_right mem_cons mem_cons_of_mem mem_cons_self mem_flatten mem_map mem_of_mem_drop mem_or_eq_of_mem_set mem_singleton nil_append nodup_append nodup_cons not_mem_nil perm_append_comm perm_iff_count perm_middle replicate_succ take_append_drop take_left' take_length take_of_length_le take_succ_cons take_zero)
section
namespace Go.Desk
open Go
def p2 (e:Int):Rat:=(2:Rat) ^ e
theorem Je (e:Int):0<p2 e:=Rat.zpow_pos (by decide)
theorem Gf (a b:Int):p2 (a+b)=p2 a * p2 b:=Rat.zpow_add (by decide) a b
theorem CM:p2 0=1:=Rat.zpow_zero _
theorem Jz (n:Nat):p2 (n:Int)=((2 ^ n:Nat):Rat):=by
 induction n with
 | zero=>exact CM
 | succ n ih =>
   rw[show ((n+1:Nat):Int)=(n:Int)+1 by omega,Gf,ih,Nat.pow_succ,Rat.natCast_mul,show p2 1=(2:Rat) from Rat.zpow_one _]
   rfl
theorem Pb (n:Nat):1≤p2 (n:Int):=by
 rw[Jz]
 have:1≤2 ^ n:=Nat.one_le_two_pow
 exact_mod_cast this
theorem H8 {a b:Int} (h:a≤b):p2 a≤p2 b:=by
 obtain ⟨n,hn⟩:=Int.eq_ofNat_of_zero_le (show 0≤b - a by omega)
 rw[show b=a+(n:Int) by omega,Gf]
 have:=Rat.mul_le_mul_of_nonneg_left (Pb n) (Rat.le_of_lt (Je a))
 rwa [Rat.mul_one] at this
theorem Ja {a b:Int} (h:a<b):p2 a<p2 b:=by
 have h1:p2 (a+1)≤p2 b:=H8 (by omega)
 have h2:p2 (a+1)=p2 a * 2:=by rw[Gf,show p2 1=(2:Rat) from Rat.zpow_one _]
 have h3:=Je a
 grind
def mv (m:Nat) (e:Int):Rat:=(m:Rat) * p2 e
theorem Aq (m:Nat) (e:Int):0≤mv m e:=Rat.mul_nonneg (by exact_mod_cast Nat.zero_le m) (Rat.le_of_lt (Je e))
theorem CZ (e:Int):mv 0 e=0:=by unfold mv;rw[show ((0:Nat):Rat)=0 from rfl,Rat.zero_mul]
theorem BT (m k:Nat) (e:Int):mv (m * 2 ^ k) e=mv m (e+k):=by
 unfold mv
 rw[Rat.natCast_mul,Gf,Jz]
 grind
theorem Cg {m n:Nat} {e:Int}:mv m e≤mv n e↔m≤n:=by
 unfold mv
 constructor
 ·intro h
  have:=Rat.le_of_mul_le_mul_right h (Je e)
  exact_mod_cast this
 ·intro h
  exact Rat.mul_le_mul_of_nonneg_right (by exact_mod_cast h) (Rat.le_of_lt (Je e))
theorem IR {m n:Nat} {e:Int}:mv m e<mv n e↔m<n:=by
 rw[← Rat.not_le,Cg];omega
theorem WI (e:Int):mv 1 e=p2 e:=by unfold mv;rw[show ((1:Nat):Rat)=1 from rfl,Rat.one_mul]
theorem B5 (k:Nat) (e:Int):mv (2 ^ k) e=p2 (e+k):=by
 have:=BT 1 k e
 rw[Nat.one_mul] at this
 rw[this,WI]
theorem Mi (s:Bool) (n d B:Nat):(n≤B * 2 ^ d→Ieee.Toward.cut .even s n d≤B)∧(B * 2 ^ d≤n→B≤Ieee.Toward.cut .even s n d):=by
 unfold Ieee.Toward.cut
 simp only[Nat.shiftLeft_eq,Nat.one_mul]
 rcases Nat.lt_or_ge (n.log2+2) d with hd | hd
 ·rw[Nat.min_eq_right (Nat.le_of_lt hd)]
  have h1:n<2 ^ (n.log2+1):=Nat.lt_log2_self
  have h2:2 ^ (n.log2+2)=2 * 2 ^ (n.log2+1):=by rw[Nat.pow_succ];omega
  have h3:n<2 ^ (n.log2+2):=by omega
  rw[Nat.div_eq_of_lt h3,Nat.mod_eq_of_lt h3]
  have hm:(decide (2 ^ (n.log2+2)<2 * n)||(2 ^ (n.log2+2)==2 * n&&(0:Nat) % 2==1))=false:=by
   simp;omega
  rw[hm]
  constructor
  ·intro _;exact Nat.zero_le _
  ·intro h
   have h4:2 ^ (n.log2+2)≤2 ^ d:=Nat.pow_le_pow_right (by decide) (by omega)
   rcases Nat.eq_zero_or_pos B with rfl | hB
   ·exact Nat.zero_le _
   ·have:2 ^ d≤B * 2 ^ d:=Nat.le_mul_of_pos_left _ hB
    omega
 ·rw[Nat.min_eq_left hd]
  have hg:0<2 ^ d:=Nat.two_pow_pos d
  generalize 2 ^ d=g at hg ⊢
  have hn:g * (n / g)+n % g=n:=Nat.div_add_mod n g
  have hr:n % g<g:=Nat.mod_lt _ hg
  generalize hq:n / g=q at hn ⊢
  generalize hrr:n % g=r at hn hr ⊢
  constructor
  ·intro h
   cases hm:(decide (g<2 * r)||(g==2 * r&&q % 2==1))
   ·simp only[Bool.toNat_false,Nat.add_zero]
    have:g * q≤B * g:=by omega
    rw[Nat.mul_comm] at this
    exact Nat.le_of_mul_le_mul_right this hg
   ·simp only[Bool.toNat_true]
    have hr0:0<r:=by
     simp only[Bool.or_eq_true,decide_eq_true_eq,zB,beq_iff_eq] at hm
     omega
    have:g * q<g * B:=by rw[Nat.mul_comm g B];omega
    exact Nat.lt_of_mul_lt_mul_left this
  ·intro h
   have:B≤q:=by
    rw[← hq]
    exact (Nat.le_div_iff_mul_le hg).2 h
   omega
def sg (s:Bool) (v:Rat):Rat:=if s then -v else v
def fval (k:FloatKind) (x:Nat):Rat:=match k.decode x with
 | .number s m e=>sg s (mv m e)
 | _=>0
def C0 (k:FloatKind) (B:Rat):Prop:=∃ M P,M≤2 * k.format.binade∧k.format.leastPlace≤P∧B=mv M P
def F0:FloatKind→Int
 | .f32=>128
 | .f64=>1024
theorem dV (k:FloatKind):∃ K:Nat,2≤K∧k.format.infRung=K * k.format.binade∧F0 k=k.format.leastPlace+(k.format.fractionBits:Int)+(K:Int) - 1∧k.format.infRung<k.format.signWeight∧k.format.binade=2 ^ k.format.fractionBits:=by
 cases k
 ·exact ⟨255,by decide,by decide,by decide,by decide,rfl⟩
 ·exact ⟨2047,by decide,by decide,by decide,by decide,rfl⟩
theorem Wy {f:Ieee.Format} {s:Bool} {r:Nat} (h:r<f.signWeight):(f.word s r / f.signWeight % 2==1)=s:=by
 have hp:0<f.signWeight:=by omega
 unfold Ieee.Format.word
 cases s
 ·simp[Nat.div_eq_of_lt h]
 ·simp only[if_true]
  rw[Nat.add_div_left _ hp,Nat.div_eq_of_lt h];rfl
theorem Vy {f:Ieee.Format} {s:Bool} {r:Nat} (h:r<f.signWeight):f.word s r % f.signWeight=r:=by
 unfold Ieee.Format.word
 split
 ·rw[Nat.add_mod_left,Nat.mod_eq_of_lt h]
 ·rw[Nat.mod_eq_of_lt h]
theorem PT (k:FloatKind) (s:Bool) {j kept:Nat} (h1:kept≤2 * k.format.binade) (h2:0<j→k.format.binade≤kept) (h3:j * k.format.binade+kept<k.format.infRung) :
  ∃ m e,k.format.read (k.format.word s (j * k.format.binade+kept)) = .number s m e∧mv m e=mv kept (k.format.leastPlace+(j:Int))∧m≤2 * k.format.binade∧k.format.leastPlace≤e:=by
 obtain ⟨K,-,-,-,hw,hb⟩:=dV k
 have hbp:0<k.format.binade:=by rw[hb];exact Nat.two_pow_pos _
 have hr:j * k.format.binade+kept<k.format.signWeight:=by omega
 unfold Ieee.Format.read
 simp only[Wy hr,Vy hr]
 generalize hbb:k.format.binade=b at *
 by_cases c1:j * b+kept<b
 ·rw[if_pos c1]
  have hj:j=0:=by
   rcases Nat.eq_zero_or_pos j with h | h
   ·exact h
   ·have:=Nat.le_mul_of_pos_left b h;omega
  subst hj
  refine ⟨_,_,rfl,?_,by omega,Int.le_refl _⟩
  rw[Nat.zero_mul,Nat.zero_add];simp
 ·rw[if_neg c1,if_pos h3]
  rcases Nat.lt_or_ge kept b with hk | hk
  ·rcases Nat.eq_zero_or_pos j with h | h
   ·subst h;omega
   ·have:=h2 h;omega
  ·rcases Nat.lt_or_ge kept (2 * b) with hk2 | hk2
   ·have e1:(j * b+kept) / b=j+1:=by
     rw[show j * b+kept=(kept - b)+b * (j+1) by rw[Nat.mul_add,Nat.mul_comm b j];omega,Nat.add_mul_div_left _ _ hbp,Nat.div_eq_of_lt (by omega)];omega
    have e2:(j * b+kept) % b=kept - b:=by
     rw[show j * b+kept=(kept - b)+b * (j+1) by rw[Nat.mul_add,Nat.mul_comm b j];omega,Nat.add_mul_mod_self_left,Nat.mod_eq_of_lt (by omega)]
    refine ⟨_,_,rfl,?_,by rw[e2];omega,by rw[e1];omega⟩
    rw[e1,e2,show b+(kept - b)=kept by omega,Nat.add_sub_cancel]
   ·have hk3:kept=2 * b:=by omega
    subst hk3
    have e1:(j * b+2 * b) / b=j+2:=by rw[← Nat.add_mul,Nat.mul_div_cancel _ hbp]
    have e2:(j * b+2 * b) % b=0:=by rw[← Nat.add_mul,Nat.mul_mod_left]
    refine ⟨_,_,rfl,?_,by rw[e2];omega,by rw[e1];omega⟩
    rw[e1,e2,Nat.add_zero,show (j+2 - 1:Nat)=j+1 by omega,show 2 * b=b * 2 ^ 1 by omega,BT]
    congr 1;omega
theorem LU (k:FloatKind) (s:Bool) (m:Nat) (e:Int) {B0:Rat} (hB0:C0 k B0) (hv:mv m e≤B0) (hf:B0<p2 (F0 k)) :
  ∃ m' e',k.format.read (k.format.nearest s m e) = .number s m' e'∧m'≤2 * k.format.binade∧k.format.leastPlace≤e'∧∀ B,C0 k B→(mv m e≤B→mv m' e'≤B)∧(B≤mv m e→B≤mv m' e'):=by
 obtain ⟨K,hK,hinf,htop,hw,hb⟩:=dV k
 have hbp:0<k.format.binade:=by rw[hb];exact Nat.two_pow_pos _
 unfold Ieee.Format.nearest
 by_cases hm:m=0
 ·subst hm
  rw[if_pos rfl]
  have h3:0 * k.format.binade+0<k.format.infRung:=by rw[hinf,Nat.zero_mul,Nat.zero_add];exact Nat.mul_pos (by omega) hbp
  obtain ⟨m',e',r1,r2,r3,r4⟩:=PT k s (j:=0) (kept:=0) (Nat.zero_le _) (by omega) h3
  rw[Nat.zero_mul] at r1
  refine ⟨m',e',r1,r3,r4,fun B _ => ?_⟩
  rw[r2,CZ,CZ]
  exact ⟨id,id⟩
 rw[if_neg hm]
 generalize hla:max (e+(m.log2:Int) - (k.format.fractionBits:Int)) k.format.leastPlace=last
 have hl1:k.format.leastPlace≤last:=by omega
 have hl2:e+(m.log2:Int) - (k.format.fractionBits:Int)≤last:=by omega
 have hl3:last≠k.format.leastPlace→last=e+(m.log2:Int) - (k.format.fractionBits:Int):=by omega
 simp only
 generalize hn:m <<< (e - last).toNat=n
 generalize hd:(last - e).toNat=d
 have hval:mv n (last - (d:Int))=mv m e:=by
  rw[← hn,Nat.shiftLeft_eq,BT]
  congr 1;omega
 have hlow:p2 (e+(m.log2:Int))≤mv m e:=by
  have:2 ^ m.log2≤m:=Nat.log2_self_le hm
  have h:=(Cg (e:=e)).2 this
  rwa [B5] at h
 have hhigh:mv m e<p2 (e+(m.log2:Int)+1):=by
  have:m<2 ^ (m.log2+1):=Nat.lt_log2_self
  have h:=(IR (e:=e)).2 this
  rw[B5] at h
  rw[show e+(m.log2:Int)+1=e+((m.log2+1:Nat):Int) by omega];exact h
 generalize hk:Ieee.Toward.cut .even s n d=kept
 have hcut:∀ B:Nat,(mv m e≤mv B last→mv kept last≤mv B last)∧(mv B last≤mv m e→mv B last≤mv kept last):=by
  intro B
  have hB:mv B last=mv (B * 2 ^ d) (last - (d:Int)):=by rw[BT];congr 1;omega
  have:=Mi s n d B
  rw[hk] at this
  rw[Cg,Cg]
  rw[← hval,hB,Cg,Cg]
  exact this
 have hkb:kept≤2 * k.format.binade:=by
  have h:=(hcut (2 * k.format.binade)).1 (by
   rw[hb,show 2 * 2 ^ k.format.fractionBits=2 ^ (k.format.fractionBits+1) by rw[Nat.pow_succ];omega,B5]
   refine Rat.le_trans (Rat.le_of_lt hhigh) (H8 ?_)
   omega)
  exact Cg.1 h
 have hkl:last≠k.format.leastPlace→k.format.binade≤kept:=by
  intro h
  have h:=(hcut k.format.binade).2 (by
   rw[hb,B5]
   refine Rat.le_trans (H8 ?_) hlow
   have:=hl3 h
   omega)
  exact Cg.1 h
 have key:∀ B,C0 k B→(mv m e≤B→mv kept last≤B)∧(B≤mv m e→B≤mv kept last):=by
  rintro B ⟨M,P,hM,hP,rfl⟩
  by_cases hPl:last≤P
  ·have hB:mv M P=mv (M * 2 ^ (P - last).toNat) last:=by rw[BT];congr 1;omega
   rw[hB];exact hcut _
  ·have hl4:=hl3 (by omega)
   have hMB:mv M P≤mv k.format.binade last:=by
    refine Rat.le_trans (Cg.2 hM) ?_
    rw[hb,show 2 * 2 ^ k.format.fractionBits=2 ^ (k.format.fractionBits+1) by rw[Nat.pow_succ];omega,B5,B5]
    exact H8 (by omega)
   have hBm:mv k.format.binade last≤mv m e:=by
    rw[hb,B5]
    exact Rat.le_trans (H8 (by omega)) hlow
   constructor
   ·intro h
    have h1:mv m e≤mv k.format.binade last:=Rat.le_trans h hMB
    exact Rat.le_trans ((hcut _).1 h1) (Rat.le_trans hBm h)
   ·intro _
    exact Rat.le_trans hMB ((hcut _).2 hBm)
 have hfin:(last - k.format.leastPlace).toNat * k.format.binade+kept<k.format.infRung:=by
  rcases Nat.lt_or_ge ((last - k.format.leastPlace).toNat * k.format.binade+kept) k.format.infRung with h | h
  ·exact h
  ·exfalso
   have hR:mv kept last<p2 (F0 k):=by
    have h1:=(key B0 hB0).1 hv
    grind
   rw[hinf] at h
   generalize hj:(last - k.format.leastPlace).toNat=j at h
   generalize hbb:k.format.binade=b at *
   have hj2:K≤j+2:=by
    rcases Nat.lt_or_ge (j+2) K with h' | h'
    ·have:(j+3) * b≤K * b:=Nat.mul_le_mul_right _ h'
     rw[Nat.add_mul] at this
     omega
    ·exact h'
   have hge:p2 (F0 k)≤mv kept last:=by
    rcases Nat.lt_or_ge j (K - 1) with h' | h'
    ·have hj3:K=j+2:=by omega
     subst hj3
     rw[Nat.add_mul] at h
     have:kept=2 ^ (k.format.fractionBits+1):=by rw[Nat.pow_succ,← hb];omega
     rw[this,B5]
     exact H8 (by omega)
    ·have:mv (2 ^ k.format.fractionBits) last≤mv kept last:=Cg.2 (by rw[← hb];exact hkl (by omega))
     refine Rat.le_trans ?_ this
     rw[B5]
     exact H8 (by omega)
   grind
 rw[Nat.min_eq_left (Nat.le_of_lt hfin)]
 obtain ⟨m',e',r1,r2,r3,r4⟩:=PT k s hkb (fun h=>hkl (by omega)) hfin
 refine ⟨m',e',r1,r3,r4,fun B hB => ?_⟩
 rw[r2,show k.format.leastPlace+((last - k.format.leastPlace).toNat:Int)=last by omega]
 exact key B hB
theorem P4 (a b:Nat) (e f:Int):mv (a * b) (e+f)=mv a e * mv b f:=by
 unfold mv;rw[Rat.natCast_mul,Gf];grind
theorem M5 (k:FloatKind) {e:Int} (h:k.format.leastPlace≤e):C0 k (p2 e):=⟨1,e,by cases k <;>decide,h,(WI e).symm⟩
theorem Pg {x:Nat} {s:Bool} {m:Nat} {e:Int} (h:FloatKind.f32.decode x = .number s m e):mv m e≤p2 128:=by
 obtain ⟨h1,-,h3⟩:=Dg (x:=x) h
 have h4:mv m e≤mv (2 ^ 24) e:=Cg.2 (by omega)
 rw[B5] at h4
 exact Rat.le_trans h4 (H8 (by omega))
theorem Vi (k:FloatKind) {s:Bool} {m:Nat} {e E:Int} (h:mv m e≤p2 E) (h1:k.format.leastPlace≤E) (h2:E<F0 k):∃ m' e',k.decode (k.encode (.number s m e)) = .number s m' e'∧mv m' e'≤p2 E:=by
 obtain ⟨m',e',r1,-,-,r4⟩:=LU k s m e (M5 k h1) h (Ja h2)
 exact ⟨m',e',r1,(r4 _ (M5 k h1)).1 h⟩
theorem Jb {k k':FloatKind} {x:Nat} {E:Int} (hk:k≠k') (h1:k'.format.leastPlace≤E) (h2:E<F0 k') (h:∀ s m e,k.decode x = .number s m e→mv m e≤p2 E):∃ y,Aj k x k'=some y:=by
 unfold Aj
 rw[if_neg hk]
 cases hd:k.decode x with
 | nan s t=>exact ⟨_,rfl⟩
 | infinity s=>exact ⟨_,rfl⟩
 | number s m e =>
   obtain ⟨m',e',r1,-⟩:=Vi k' (s:=s) (h s m e hd) h1 h2
   refine ⟨k'.encode (.number s m e),?_⟩
   simp only[r1,Ieee.Datum.isInfinity]
   rfl
def bM (k:FloatKind) (B:Rat):Prop:=∃ s C,C0 k C∧B=sg s C
theorem A4 (v:Rat):sg false v=v:=rfl
theorem C5 (v:Rat):sg true v = -v:=rfl
theorem L5 {k:FloatKind} {B:Rat} (h:C0 k B):0≤B:=by
 obtain ⟨M,P,-,-,rfl⟩:=h;exact Aq _ _
theorem C0.rep {k:FloatKind} {B:Rat} (h:C0 k B):bM k B:=⟨false,B,h,rfl⟩
theorem C0.neg {k:FloatKind} {B:Rat} (h:C0 k B):bM k (-B):=⟨true,B,h,rfl⟩
def Br (k:FloatKind) (x:Nat) (v:Rat):Prop:=∃ s m e,k.decode x = .number s m e∧v=sg s (mv m e)∧m≤2 * k.format.binade∧k.format.leastPlace≤e
theorem Br.rep {k:FloatKind} {x:Nat} {v:Rat} (h:Br k x v):bM k v:=by
 obtain ⟨s,m,e,-,rfl,h1,h2⟩:=h
 exact ⟨s,_,⟨m,e,h1,h2,rfl⟩,rfl⟩
theorem Br.inj {k:FloatKind} {x:Nat} {v w:Rat} (h:Br k x v) (h':Br k x w):v=w:=by
 obtain ⟨s,m,e,h1,rfl,-⟩:=h
 obtain ⟨s',m',e',h2,rfl,-⟩:=h'
 rw[h1] at h2;cases h2;rfl
def KN (k:FloatKind) (v R:Rat):Prop:=∀ B,bM k B→(v≤B→R≤B)∧(B≤v→B≤R)
theorem Fw (k:FloatKind) (s:Bool) (m:Nat) (e:Int) {B0:Rat} (hB0:C0 k B0) (hv:mv m e≤B0) (hf:B0<p2 (F0 k)) :
  ∃ R,Br k (k.encode (.number s m e)) R∧KN k (sg s (mv m e)) R:=by
 obtain ⟨m',e',r1,r2,r3,r4⟩:=LU k s m e hB0 hv hf
 refine ⟨sg s (mv m' e'),⟨s,m',e',r1,rfl,r2,r3⟩,?_⟩
 rintro B ⟨t,C,hC,rfl⟩
 obtain ⟨c1,c2⟩:=r4 C hC
 have hC0:=L5 hC
 have h0:=Aq m e
 have h0' :=Aq m' e'
 have hz:mv m e≤0→mv m' e'≤0:=by
  intro h
  have hz:C0 k 0:=⟨0,k.format.leastPlace,Nat.zero_le _,Int.le_refl _,(CZ _).symm⟩
  exact (r4 0 hz).1 h
 cases s <;>cases t <;>simp only[sg] <;>constructor <;>intro h <;>simp only[Bool.false_eq_true,if_false,if_true] at * <;>grind
theorem Br.near_eq {k:FloatKind} {x:Nat} {v R:Rat} (h:Br k x R) (hn:KN k v R) (hv:bM k v):Br k x v:=by
 have h1:=(hn v hv).1 Rat.le_refl
 have h2:=(hn v hv).2 Rat.le_refl
 have:v=R:=by grind
 rw[this];exact h
theorem Br.num {k:FloatKind} {x:Nat} {v:Rat} (h:Br k x v):isNaN k x=false:=by
 obtain ⟨s,m,e,h1,-⟩:=h
 unfold isNaN;rw[h1];rfl
theorem DE (s:Bool) (m up:Nat) (b:Int):((Ieee.signed s m up:Int):Rat) * p2 b=sg s (mv m (b+(up:Int))):=by
 rw[← BT]
 unfold Ieee.signed sg mv
 rw[Nat.shiftLeft_eq]
 cases s <;>simp only[Bool.false_eq_true,if_false,if_true]
 ·rw[Rat.intCast_natCast]
 ·rw[Rat.intCast_neg,Rat.intCast_natCast];grind
theorem LL (t:Int) (c:Bool) (b:Int):sg (if t=0 then c else decide (t<0)) (mv t.natAbs b)=(t:Rat) * p2 b:=by
 by_cases h0:t=0
 ·subst h0
  rw[if_pos rfl]
  simp only[Int.natAbs_zero,CZ,sg,Rat.intCast_zero,Rat.zero_mul]
  cases c <;>simp
 ·rw[if_neg h0]
  by_cases h1:t<0
  ·rw[decide_eq_true h1]
   have:(t:Rat) = -((t.natAbs:Nat):Rat):=by rw[← Rat.intCast_natCast,← Rat.intCast_neg];congr 1;omega
   rw[this]
   simp only[sg,if_true,mv];grind
  ·rw[decide_eq_false h1]
   have:(t:Rat)=((t.natAbs:Nat):Rat):=by rw[← Rat.intCast_natCast];congr 1;omega
   rw[this]
   simp only[sg,Bool.false_eq_true,if_false,mv]
theorem cM {a b c:Rat} (h1:a≤b) (h2:b<c):a<c:=by grind
theorem LX {s:Bool} {c B:Rat} (_:0≤c) (h1:sg s c≤B) (h2 : -B≤sg s c):c≤B:=by
 cases s <;>simp only[sg,Bool.false_eq_true,if_false,if_true] at * <;>grind
theorem Kg {k:FloatKind} {x y:Nat} {a b B:Rat} (hx:Br k x a) (hy:Br k y b) (hB:C0 k B) (hf:B<p2 (F0 k)) (h1:a+b≤B) (h2 : -B≤a+b) :
  ∃ R,Br k (BD k x y) R∧KN k (a+b) R:=by
 obtain ⟨s,m,i,e1,rfl,-⟩:=hx
 obtain ⟨t,n,j,e2,rfl,-⟩:=hy
 have e1:k.format.read x = .number s m i:=e1
 have e2:k.format.read y = .number t n j:=e2
 generalize hb:min i j=base
 generalize ht:Ieee.signed s m (i - base).toNat+Ieee.signed t n (j - base).toNat=total
 have hadd:BD k x y=k.encode (.number (if total=0 then s&&t else total<0) total.natAbs base):=by
  simp only[BD,Ieee.Format.add,e1,e2,Ieee.Datum.sum,Option.map_some,hb,ht]
  rfl
 have hval:sg (if total=0 then s&&t else decide (total<0)) (mv total.natAbs base)=sg s (mv m i)+sg t (mv n j):=by
  rw[LL,← ht,Rat.intCast_add,Rat.add_mul,DE,DE]
  congr 2 <;>congr 1 <;>omega
 rw[hadd,← hval]
 exact Fw k _ _ _ hB (LX (Aq _ _) (by rw[hval];exact h1) (by rw[hval];exact h2)) hf
theorem Fb {k:FloatKind} {x y:Nat} {a b B:Rat} (hx:Br k x a) (hy:Br k y b) (hB:C0 k B) (hf:B<p2 (F0 k)) (h1:a * b≤B) (h2 : -B≤a * b) :
  ∃ R,Br k (AT k x y) R∧KN k (a * b) R:=by
 obtain ⟨s,m,i,e1,rfl,-⟩:=hx
 obtain ⟨t,n,j,e2,rfl,-⟩:=hy
 have e1:k.format.read x = .number s m i:=e1
 have e2:k.format.read y = .number t n j:=e2
 have hmul:AT k x y=k.encode (.number (s ^^ t) (m * n) (i+j)):=by
  simp only[AT,Ieee.Format.mul,e1,e2,Ieee.Datum.product,Option.map_some]
  rfl
 have hval:sg (s ^^ t) (mv (m * n) (i+j))=sg s (mv m i) * sg t (mv n j):=by
  rw[P4]
  cases s <;>cases t <;>simp[sg] <;>grind
 rw[hmul,← hval]
 exact Fw k _ _ _ hB (LX (Aq _ _) (by rw[hval];exact h1) (by rw[hval];exact h2)) hf
theorem Dr {k:FloatKind} {x y:Nat} {a b:Rat} (hx:Br k x a) (hy:Br k y b):(k.format.order x y=some .lt↔a<b)∧(k.format.order x y=some .eq↔a=b)∧(k.format.order x y=some .gt↔b<a):=by
 obtain ⟨s,m,i,e1,rfl,-⟩:=hx
 obtain ⟨t,n,j,e2,rfl,-⟩:=hy
 have e1:k.format.read x = .number s m i:=e1
 have e2:k.format.read y = .number t n j:=e2
 generalize hb:min i j=base
 have ha:sg s (mv m i)=((Ieee.signed s m (i - base).toNat:Int):Rat) * p2 base:=by rw[DE];congr 2;omega
 have hc:sg t (mv n j)=((Ieee.signed t n (j - base).toNat:Int):Rat) * p2 base:=by rw[DE];congr 2;omega
 rw[ha,hc]
 have ho:k.format.order x y=some (compare (Ieee.signed s m (i - base).toNat) (Ieee.signed t n (j - base).toNat)):=by
  simp only[Ieee.Format.order,e1,e2,Ieee.Datum.order,hb]
 rw[ho]
 generalize Ieee.signed s m (i - base).toNat=u
 generalize Ieee.signed t n (j - base).toNat=v
 have hlt:∀ p q:Int,(p:Rat) * p2 base<(q:Rat) * p2 base↔p<q:=fun p q=>by rw[Rat.mul_lt_mul_right (Je _),Rat.intCast_lt_intCast]
 have heq:((u:Rat) * p2 base=(v:Rat) * p2 base)↔u=v:=by
  constructor
  ·intro h
   rcases Int.lt_trichotomy u v with h1 | h1 | h1
   ·have:=(hlt u v).2 h1;grind
   ·exact h1
   ·have:=(hlt v u).2 h1;grind
  ·rintro rfl;rfl
 rw[hlt,hlt,heq]
 have hc:(u<v∧compare u v = .lt)∨(u=v∧compare u v = .eq)∨(v<u∧compare u v = .gt):=by
  rcases Int.lt_trichotomy u v with h1 | h1 | h1
  ·exact .inl ⟨h1,by simp[compare,compareOfLessAndEq,h1]⟩
  ·subst h1;exact .inr (.inl ⟨rfl,by simp[compare,compareOfLessAndEq]⟩)
  ·exact .inr (.inr ⟨h1,by simp only[compare,compareOfLessAndEq];rw[if_neg (by omega),if_neg (by omega)]⟩)
 rcases hc with ⟨h,e⟩ | ⟨h,e⟩ | ⟨h,e⟩ <;>rw[e] <;>simp <;>omega
theorem Ux {k:FloatKind} {x y:Nat} {a b:Rat} (hx:Br k x a) (hy:Br k y b):flt k x y=true↔a<b:=by
 rw[← (Dr hx hy).1];simp[flt]
theorem Uy {k:FloatKind} {x y:Nat} {a b:Rat} (hx:Br k x a) (hy:Br k y b):H2 k x y=true↔b<a:=by
 rw[← (Dr hx hy).2.2];simp[H2]
theorem Yh {k:FloatKind} {x y:Nat} {a b:Rat} (hx:Br k x a) (hy:Br k y b):RQ k x y=true↔a=b:=by
 rw[← (Dr hx hy).2.1];simp[RQ]
theorem Qi {k:FloatKind} {x y:Nat} {a b:Rat} (hx:Br k x a) (hy:Br k y b):UM k x y=true↔a≤b:=by
 have h1:=(Dr hx hy).1
 have h2:=(Dr hx hy).2.1
 simp only[UM,Bool.or_eq_true,beq_iff_eq,h1,h2]
 grind
theorem KP {k:FloatKind} {x y:Nat} {a b:Rat} (hx:Br k x a) (hy:Br k y b):LH k x y=true↔b≤a:=by
 have h1:=(Dr hx hy).2.2
 have h2:=(Dr hx hy).2.1
 simp only[LH,Bool.or_eq_true,beq_iff_eq,h1,h2]
 grind
theorem KW (s:Bool) (n d:Nat):Ieee.Toward.cut .zero s n d=n / 2 ^ d:=by
 unfold Ieee.Toward.cut
 simp only[Nat.shiftLeft_eq,Nat.one_mul,Bool.toNat_false,Nat.add_zero]
 rcases Nat.lt_or_ge (n.log2+2) d with hd | hd
 ·rw[Nat.min_eq_right (Nat.le_of_lt hd)]
  have h1:n<2 ^ (n.log2+1):=Nat.lt_log2_self
  have h2:2 ^ (n.log2+1)≤2 ^ (n.log2+2):=Nat.pow_le_pow_right (by decide) (by omega)
  have h3:2 ^ (n.log2+1)≤2 ^ d:=Nat.pow_le_pow_right (by decide) (by omega)
  rw[Nat.div_eq_of_lt (by omega),Nat.div_eq_of_lt (by omega)]
 ·rw[Nat.min_eq_left hd]
theorem QW {x:Nat} {a:Rat} {N:Nat} (hx:Br .f64 x a) (h0:0≤a) (h1:a<(N:Rat)) (hN:N≤9223372036854775807):∃ n:Nat,Da .f64 x .i64=some (n:Int)∧n<N∧(n:Rat)≤a∧a<(n:Rat)+1:=by
 obtain ⟨s,m,i,e1,rfl,-⟩:=hx
 have hs:s=true→mv m i=0:=by
  intro h;subst h
  have:=Aq m i
  simp only[sg,if_true] at h0
  grind
 have hm:s=true→m=0:=by
  intro h
  have h2:=hs h
  rcases Nat.eq_zero_or_pos m with h3 | h3
  ·exact h3
  ·have:=IR (e:=i) |>.2 h3
   rw[CZ] at this
   grind
 have hv:sg s (mv m i)=mv m i:=by
  cases s
  ·rfl
  ·rw[hs rfl];rfl
 rw[hv] at h0 h1 ⊢
 generalize hn:(m <<< i.toNat) / 2 ^ (-i).toNat=n
 have hkey:mv n 0≤mv m i∧mv m i<mv (n+1) 0:=by
  rcases Int.le_total 0 i with hi | hi
  ·have:(-i).toNat=0:=by omega
   rw[this,Nat.pow_zero,Nat.div_one,Nat.shiftLeft_eq] at hn
   have e:mv n 0=mv m i:=by rw[← hn,BT];congr 1;omega
   rw[← e]
   exact ⟨Rat.le_refl,IR.2 (by omega)⟩
  ·have h2:i.toNat=0:=by omega
   rw[h2,Nat.shiftLeft_zero] at hn
   generalize hd:(-i).toNat=d at hn
   have e:∀ q,mv q 0=mv (q * 2 ^ d) i:=fun q=>by rw[BT];congr 1;omega
   rw[e,e,Cg,IR]
   have hg:0<2 ^ d:=Nat.two_pow_pos d
   have h3:=Nat.div_add_mod m (2 ^ d)
   have h4:=Nat.mod_lt m hg
   rw[hn,Nat.mul_comm] at h3
   rw[Nat.add_mul]
   omega
 have h2:∀ q:Nat,mv q 0=(q:Rat):=fun q=>by unfold mv;rw[CM,Rat.mul_one]
 rw[h2,h2] at hkey
 have hnN:n<N:=by
  have:(n:Rat)<(N:Rat):=by grind
  exact_mod_cast this
 refine ⟨n,?_,hnN,hkey.1,by have:=hkey.2;rw[Rat.natCast_add] at this;exact this⟩
 unfold Da
 simp only[Ieee.Datum.toInt,e1,Ieee.Datum.integral,KW,hn]
 have hsg:Ieee.signed s n 0=(n:Int):=by
  unfold Ieee.signed
  cases s
  ·simp
  ·have:=hm rfl
   subst this
   have:n=0:=by rw[← hn];simp
   subst this;rfl
 rw[hsg]
 have h5:IntKind.min .i64 = -9223372036854775808:=by decide
 have h6:IntKind.max .i64=9223372036854775807:=by decide
 rw[if_pos (by rw[h5,h6];omega)]
theorem C7 {k:FloatKind} {n:Int} (hn:n.natAbs≤2 * k.format.binade):Br k (k.nearest n) (n:Rat):=by
 have hm:C0 k (mv n.natAbs 0):=⟨n.natAbs,0,hn,by cases k <;>decide,rfl⟩
 have hval:sg (decide (n<0)) (mv n.natAbs 0)=(n:Rat):=by
  have:=LL n (decide (n<0)) 0
  rw[CM,Rat.mul_one] at this
  rw[← this]
  congr 1
  by_cases h:n=0
  ·rw[if_pos h]
  ·rw[if_neg h]
 have hlt:mv n.natAbs 0<p2 (F0 k):=by
  have h1:mv n.natAbs 0≤mv (2 * k.format.binade) 0:=Cg.2 hn
  cases k
  ·exact cM h1 (by rw[show 2 * FloatKind.f32.format.binade=2 ^ 24 by decide,B5];exact Ja (by decide))
  ·exact cM h1 (by rw[show 2 * FloatKind.f64.format.binade=2 ^ 53 by decide,B5];exact Ja (by decide))
 obtain ⟨R,h1,h2⟩:=Fw k (decide (n<0)) n.natAbs 0 hm Rat.le_refl hlt
 have h3:Br k (k.nearest n) R:=h1
 rw[hval] at h2
 refine h3.near_eq h2 ⟨decide (n<0),_,hm,hval.symm⟩
theorem RR {x:Nat} {a:Rat} (h:Br .f32 x a):Br .f64 (B7 x) a:=by
 obtain ⟨s,m,e,h1,rfl,h2,h3⟩:=h
 have h3' : -149≤e:=h3
 have h2':m≤16777216:=h2
 have hr:C0 .f64 (mv m e):=⟨m,e,Nat.le_trans h2' (by decide),(show (-1074:Int)≤e by omega),rfl⟩
 obtain ⟨R,r1,r2⟩:=Fw .f64 s m e hr Rat.le_refl (cM (Pg h1) (Ja (by decide)))
 have hw:=CP x
 unfold Aj at hw
 rw[if_neg (by decide),h1] at hw
 obtain ⟨s',m',e',k1,-⟩:=(show Br _ _ _ from r1)
 have k2:FloatKind.f64.decode (FloatKind.f64.encode (.number s m e)) = .number s' m' e' :=k1
 simp only[k2,Ieee.Datum.isInfinity] at hw
 have hw:FloatKind.f64.encode (.number s m e)=B7 x:=by simpa using hw
 rw[← hw]
 exact r1.near_eq r2 ⟨s,_,hr,rfl⟩
theorem ZD {k:FloatKind} {Q v:Rat} (hQ:0≤Q) (hv:0≤v) (h:∀ C,C0 k C→(Q≤C→v≤C)∧(C≤Q→C≤v)) (s:Bool):KN k (sg s Q) (sg s v):=by
 rintro B ⟨t,C,hC,rfl⟩
 obtain ⟨c1,c2⟩:=h C hC
 have hC0:=L5 hC
 have hz:Q≤0→v≤0:=(h 0 ⟨0,k.format.leastPlace,Nat.zero_le _,Int.le_refl _,(CZ _).symm⟩).1
 cases s <;>cases t <;>simp only[sg] <;>constructor <;>intro h <;>simp only[Bool.false_eq_true,if_false,if_true] at * <;>grind
theorem KN.trans {k:FloatKind} {a b c:Rat} (h:KN k a b) (h':KN k b c):KN k a c:=fun B hB=>⟨fun h1=>(h' B hB).1 ((h B hB).1 h1),fun h1=>(h' B hB).2 ((h B hB).2 h1)⟩
theorem Tl (k:FloatKind) {m n:Nat} {i j:Int} (hn:n≠0) {more q:Nat} {st:Bool} (hmore:k.format.fractionBits+2+n.log2≤more+m.log2) (hq:(m <<< more) / n=q) (hst:((m <<< more) % n != 0)=st) {C:Rat} (hC:C0 k C) :
  (mv m i≤C * mv n j→mv (2 * q+st.toNat) (i - j - more - 1)≤C)∧(C * mv n j≤mv m i→C≤mv (2 * q+st.toNat) (i - j - more - 1)):=by
 obtain ⟨-,-,-,-,-,hb⟩:=dV k
 obtain ⟨M,P,hM,hP,rfl⟩:=hC
 generalize hu:i - j - (more:Int)=u
 rw[Nat.shiftLeft_eq] at hq hst
 generalize hdv:m * 2 ^ more=dv at hq hst
 have hmv:mv m i=mv dv (u+j):=by rw[← hdv,BT];congr 1;omega
 have hdm:=Nat.div_add_mod dv n
 rw[hq] at hdm
 have hml:=Nat.mod_lt dv (Nat.pos_of_ne_zero hn)
 have hstr:(st=true→0<dv % n)∧(st=false→dv % n=0):=by
  rw[← hst]
  constructor <;>intro h <;>simp at h <;>omega
 have hst1:=Bool.toNat_le st
 have h2:∀ c,mv c u=mv (2 * c) (u - 1):=fun c=>by rw[show 2 * c=c * 2 ^ 1 by omega,BT];congr 1;omega
 by_cases hPu:u≤P
 ·have hC:mv M P=mv (M * 2 ^ (P - u).toNat) u:=by rw[BT];congr 1;omega
  rw[hC]
  generalize M * 2 ^ (P - u).toNat=M'
  rw[hmv,← P4,Cg,Cg,h2 M',Cg,Cg]
  constructor
  ·intro h
   have h3:n * q≤n * M' :=by rw[Nat.mul_comm n M'];omega
   have h4:=Nat.le_of_mul_le_mul_left h3 (Nat.pos_of_ne_zero hn)
   cases st
   ·simp only[Bool.toNat_false];omega
   ·have h5:n * q<n * M' :=by rw[Nat.mul_comm n M'];have:=hstr.1 rfl;omega
    have h6:=Nat.lt_of_mul_lt_mul_left h5
    simp only[Bool.toNat_true];omega
  ·intro h
   have:M'≤q:=by
    rw[← hq];exact (Nat.le_div_iff_mul_le (Nat.pos_of_ne_zero hn)).2 h
   omega
 ·by_cases hm:m=0
  ·subst hm
   have hd0:dv=0:=by rw[← hdv,Nat.zero_mul]
   subst hd0
   have hq0:q=0:=by rw[← hq,Nat.zero_div]
   subst hq0
   have:st=false:=by rw[← hst];simp
   subst this
   simp only[Bool.toNat_false,Nat.mul_zero,Nat.add_zero,CZ]
   refine ⟨fun _=>Aq _ _,fun h => ?_⟩
   rcases Nat.eq_zero_or_pos M with h0 | h0
   ·subst h0;rw[CZ];exact Rat.le_refl
   ·exfalso
    rw[← P4] at h
    have h5:mv 0 (P+j)<mv (M * n) (P+j):=IR.2 (Nat.mul_pos h0 (Nat.pos_of_ne_zero hn))
    rw[CZ] at h5
    grind
  ·have hdl:2 ^ (k.format.fractionBits+2+n.log2)≤dv:=by
    have h3:2 ^ (m.log2+more)≤dv:=by
     rw[Nat.pow_add,← hdv]
     exact Nat.mul_le_mul_right _ (Nat.log2_self_le hm)
    exact Nat.le_trans (Nat.pow_le_pow_right (by decide) (by omega)) h3
   have hql:2 ^ (k.format.fractionBits+1)≤q:=by
    rw[← hq,Nat.le_div_iff_mul_le (Nat.pos_of_ne_zero hn)]
    have h4:n<2 ^ (n.log2+1):=Nat.lt_log2_self
    have h5:2 ^ (k.format.fractionBits+1) * n≤2 ^ (k.format.fractionBits+1) * 2 ^ (n.log2+1):=Nat.mul_le_mul_left _ (Nat.le_of_lt h4)
    rw[← Nat.pow_add,show k.format.fractionBits+1+(n.log2+1)=k.format.fractionBits+2+n.log2 by omega] at h5
    omega
   have hCu:mv M P≤mv (2 ^ k.format.fractionBits) u:=by
    refine Rat.le_trans (Cg.2 hM) ?_
    rw[hb,show 2 * 2 ^ k.format.fractionBits=2 ^ (k.format.fractionBits+1) by rw[Nat.pow_succ];omega,B5,B5]
    exact H8 (by omega)
   have hpw:2 ^ k.format.fractionBits<2 ^ (k.format.fractionBits+1):=by rw[Nat.pow_succ];have:=Nat.two_pow_pos k.format.fractionBits;omega
   have hle:mv M P≤mv (2 * q+st.toNat) (u - 1):=by
    refine Rat.le_trans hCu ?_
    rw[h2,Cg];omega
   refine ⟨fun h => ?_,fun _=>hle⟩
   exfalso
   have h6:mv M P * mv n j≤mv (2 ^ k.format.fractionBits) u * mv n j:=Rat.mul_le_mul_of_nonneg_right hCu (Aq _ _)
   have h7:=Rat.le_trans h h6
   rw[hmv,← P4,Cg] at h7
   have h8:2 ^ (k.format.fractionBits+1) * n≤q * n:=Nat.mul_le_mul_right _ hql
   have h9:2 ^ k.format.fractionBits * n<2 ^ (k.format.fractionBits+1) * n:=Nat.mul_lt_mul_of_pos_right hpw (Nat.pos_of_ne_zero hn)
   rw[Nat.mul_comm q n] at h8
   omega
theorem KI {k:FloatKind} {x y:Nat} {a b B:Rat} (hx:Br k x a) (hy:Br k y b) (hb:b≠0) (hB:C0 k B) (hf:B<p2 (F0 k)) (h1:a / b≤B) (h2 : -B≤a / b) :
  ∃ R,Br k (fdiv k x y) R∧KN k (a / b) R:=by
 obtain ⟨s,m,i,e1,rfl,-⟩:=hx
 obtain ⟨t,n,j,e2,rfl,-⟩:=hy
 have e1:k.format.read x = .number s m i:=e1
 have e2:k.format.read y = .number t n j:=e2
 have hn:n≠0:=by
  rintro rfl
  apply hb
  rw[CZ];cases t <;>simp[sg]
 generalize hmo:k.format.fractionBits+2+n.log2 - m.log2=more
 generalize hq:(m <<< more) / n=q
 generalize hst:((m <<< more) % n != 0)=st
 have hdiv:fdiv k x y=k.encode (.number (s ^^ t) (2 * q+st.toNat) (i - j - more - 1)):=by
  simp only[fdiv,Ieee.Format.div,e1,e2,Ieee.Datum.quotient,if_neg hn,hmo,hq,hst,Option.map_some]
  rfl
 have hnp:0<mv n j:=by have:=(IR (e:=j)).2 (Nat.pos_of_ne_zero hn);rwa [CZ] at this
 have hval:sg s (mv m i) / sg t (mv n j)=sg (s ^^ t) (mv m i / mv n j):=by
  cases s <;>cases t <;>simp[sg] <;>grind
 have hcan:mv m i / mv n j * mv n j=mv m i:=by rw[Rat.div_mul_cancel];grind
 have hQ:0≤mv m i / mv n j:=by
  have h3:=Aq m i
  rcases Rat.le_total (a:=0) (b:=mv m i / mv n j) with h | h
  ·exact h
  ·have h4:mv m i / mv n j * mv n j≤0 * mv n j:=Rat.mul_le_mul_of_nonneg_right h (Rat.le_of_lt hnp)
   rw[hcan,Rat.zero_mul] at h4
   have h5:mv m i=0:=by grind
   rw[h5,Rat.div_def,Rat.zero_mul];exact Rat.le_refl
 have hside:∀ C,C0 k C→(mv m i / mv n j≤C→mv (2 * q+st.toNat) (i - j - more - 1)≤C)∧(C≤mv m i / mv n j→C≤mv (2 * q+st.toNat) (i - j - more - 1)):=by
  intro C hC
  obtain ⟨c1,c2⟩:=Tl k (i:=i) (j:=j) hn (by omega) hq hst hC
  constructor
  ·intro h
   have:=Rat.mul_le_mul_of_nonneg_right h (Rat.le_of_lt hnp)
   rw[hcan] at this
   exact c1 this
  ·intro h
   have:=Rat.mul_le_mul_of_nonneg_right h (Rat.le_of_lt hnp)
   rw[hcan] at this
   exact c2 this
 rw[hval] at h1 h2 ⊢
 have hQB:=LX hQ h1 h2
 obtain ⟨R,r1,r2⟩:=Fw k (s ^^ t) (2 * q+st.toNat) (i - j - more - 1) hB ((hside B hB).1 hQB) hf
 rw[hdiv]
 exact ⟨R,r1,(ZD hQ (Aq _ _) hside _).trans r2⟩
theorem BI {k:FloatKind} {x:Nat} {s:Bool} {m:Nat} {e:Int} (h:k.decode x = .number s m e):Br k x (sg s (mv m e)):=by
 refine ⟨s,m,e,h,rfl,?_⟩
 obtain ⟨K,-,-,-,-,hb⟩:=dV k
 have hbp:0<k.format.binade:=by rw[hb];exact Nat.two_pow_pos _
 have h:k.format.read x = .number s m e:=h
 unfold Ieee.Format.read at h
 by_cases c1:x % k.format.signWeight<k.format.binade
 ·simp only[if_pos c1] at h
  cases h
  exact ⟨by omega,Int.le_refl _⟩
 ·by_cases c2:x % k.format.signWeight<k.format.infRung
  ·simp only[if_neg c1,if_pos c2] at h
   cases h
   have:=Nat.mod_lt (x % k.format.signWeight) hbp
   exact ⟨by omega,by omega⟩
  ·by_cases c3:x % k.format.signWeight=k.format.infRung
   ·simp only[if_neg c1,if_neg c2,if_pos c3] at h;cases h
   ·simp only[if_neg c1,if_neg c2,if_neg c3] at h;cases h
theorem aV:p2 1=2:=Rat.zpow_one _
theorem Iw:Br .f64 4607182418800017408 1:=by
 have:=BI (k:=.f64) (x:=4607182418800017408) (s:=false) (m:=2 ^ 52) (e:=-52) (by decide)
 rwa [A4,B5,show (-52:Int)+((52:Nat):Int)=0 by decide,CM] at this
theorem PG:Br .f32 1065353216 1:=by
 have:=BI (k:=.f32) (x:=1065353216) (s:=false) (m:=2 ^ 23) (e:=-23) (by decide)
 rwa [A4,B5,show (-23:Int)+((23:Nat):Int)=0 by decide,CM] at this
theorem XG (k:FloatKind):bM k 0:=⟨false,0,⟨0,k.format.leastPlace,Nat.zero_le _,Int.le_refl _,(CZ _).symm⟩,rfl⟩
theorem D2 {k:FloatKind} {x:Nat} {s:Bool} {m:Nat} {e:Int} (h:k.decode x = .number s m e) :
  m<2 * k.format.binade∧k.format.leastPlace≤e∧(k.format.leastPlace<e→k.format.binade≤m)∧x % k.format.signWeight=(e - k.format.leastPlace).toNat * k.format.binade+m∧(x / k.format.signWeight % 2==1)=s:=by
 obtain ⟨K,-,-,-,-,hb⟩:=dV k
 have hbp:0<k.format.binade:=by rw[hb];exact Nat.two_pow_pos _
 have h:k.format.read x = .number s m e:=h
 unfold Ieee.Format.read at h
 by_cases c1:x % k.format.signWeight<k.format.binade
 ·simp only[if_pos c1] at h
  cases h
  refine ⟨by omega,Int.le_refl _,fun h=>by omega,?_,rfl⟩
  rw[Int.sub_self];simp
 ·by_cases c2:x % k.format.signWeight<k.format.infRung
  ·simp only[if_neg c1,if_pos c2] at h
   cases h
   generalize x % k.format.signWeight=r at *
   generalize hbb:k.format.binade=b at *
   have h1:=Nat.mod_lt r hbp
   have h2:=Nat.div_add_mod r b
   have h3:1≤r / b:=(Nat.le_div_iff_mul_le hbp).2 (by omega)
   refine ⟨by omega,by omega,fun _=>by omega,?_,rfl⟩
   have h4:(k.format.leastPlace+((r / b - 1:Nat):Int) - k.format.leastPlace).toNat=r / b - 1:=by omega
   rw[h4]
   generalize r / b=q at *
   obtain ⟨q,rfl⟩:∃ p,q=p+1:=⟨q - 1,by omega⟩
   rw[Nat.mul_add] at h2
   rw[Nat.add_sub_cancel,Nat.mul_comm q b]
   omega
  ·by_cases c3:x % k.format.signWeight=k.format.infRung
   ·simp only[if_neg c1,if_neg c2,if_pos c3] at h;cases h
   ·simp only[if_neg c1,if_neg c2,if_neg c3] at h;cases h
theorem Y9 {k:FloatKind} {m m':Nat} {e e':Int} (h1:m<2 * k.format.binade) (h1':m'<2 * k.format.binade) (h2:k.format.leastPlace≤e) (h2':k.format.leastPlace≤e') (h3:k.format.leastPlace<e→k.format.binade≤m) (h3':k.format.leastPlace<e'→k.format.binade≤m') (h:mv m e=mv m' e'):m=m'∧e=e' :=by
 have key:∀ {m m':Nat} {e e':Int},m<2 * k.format.binade→k.format.leastPlace≤e→(k.format.leastPlace<e'→k.format.binade≤m')→mv m e=mv m' e'→¬ e<e' :=by
  intro m m' e e' a1 a2 a3 a4 a5
  have e1:mv m' e'=mv (m' * 2 ^ (e' - e).toNat) e:=by rw[BT];congr 1;omega
  rw[e1] at a4
  have h5:=Cg.1 (show mv (m' * 2 ^ (e' - e).toNat) e≤mv m e by rw[a4];exact Rat.le_refl)
  have h6:=a3 (by omega)
  have h7:2 ^ 1≤2 ^ (e' - e).toNat:=Nat.pow_le_pow_right (by decide) (by omega)
  have h8:k.format.binade * 2≤m' * 2 ^ (e' - e).toNat:=Nat.mul_le_mul h6 h7
  omega
 have h4:=key h1 h2 h3' h
 have h5:=key h1' h2' h3 h.symm
 have he:e=e' :=by omega
 subst he
 refine ⟨?_,rfl⟩
 have h6:=Cg.1 (show mv m e≤mv m' e by rw[h];exact Rat.le_refl)
 have h7:=Cg.1 (show mv m' e≤mv m e by rw[h];exact Rat.le_refl)
 omega
theorem SR {k:FloatKind} {x y:Nat} {s:Bool} {m m':Nat} {e e':Int} (hx:x<2 * k.format.signWeight) (hy:y<2 * k.format.signWeight) (h:k.decode x = .number s m e) (h':k.decode y = .number s m' e') (hv:mv m e=mv m' e'):x=y:=by
 obtain ⟨a1,a2,a3,a4,a5⟩:=D2 h
 obtain ⟨b1,b2,b3,b4,b5⟩:=D2 h'
 obtain ⟨rfl,rfl⟩:=Y9 a1 b1 a2 b2 a3 b3 hv
 have hp:0<k.format.signWeight:=by omega
 have h1:x % k.format.signWeight=y % k.format.signWeight:=by rw[a4,b4]
 have q1:x / k.format.signWeight<2:=(Nat.div_lt_iff_lt_mul hp).2 hx
 have q2:y / k.format.signWeight<2:=(Nat.div_lt_iff_lt_mul hp).2 hy
 rw[Nat.mod_eq_of_lt q1] at a5
 rw[Nat.mod_eq_of_lt q2] at b5
 have h2:x / k.format.signWeight=y / k.format.signWeight:=by
  have:(x / k.format.signWeight==1)=(y / k.format.signWeight==1):=by rw[a5,b5]
  generalize x / k.format.signWeight=p at *
  generalize y / k.format.signWeight=q at *
  rcases Nat.lt_or_ge p 1 with c1 | c1 <;>rcases Nat.lt_or_ge q 1 with c2 | c2
  ·omega
  ·obtain rfl:p=0:=by omega
   obtain rfl:q=1:=by omega
   cases this
  ·obtain rfl:p=1:=by omega
   obtain rfl:q=0:=by omega
   cases this
  ·omega
 rw[← Nat.div_add_mod x k.format.signWeight,← Nat.div_add_mod y k.format.signWeight,h1,h2]
theorem FV (f:Ieee.Format) (s:Bool) (m:Nat) (e:Int):f.nearest s m e=f.word s (f.nearest false m e):=by
 unfold Ieee.Format.nearest
 by_cases hm:m=0
 ·rw[if_pos hm,if_pos hm];rfl
 ·rw[if_neg hm,if_neg hm];rfl
theorem EJ (k:FloatKind) (m:Nat) (e:Int):k.format.nearest false m e≤k.format.infRung:=by
 unfold Ieee.Format.nearest
 by_cases hm:m=0
 ·rw[if_pos hm];exact Nat.zero_le _
 ·rw[if_neg hm];exact Nat.min_le_right _ _
theorem MU (k:FloatKind) (s:Bool) {r:Nat} (h:r≤k.format.infRung):k.format.word s r<2 * k.format.signWeight:=by
 have:=HX k
 unfold Ieee.Format.word
 split <;>omega
theorem H7 (k:FloatKind) (s:Bool) {m:Nat} {e:Int} (h:C0 k (mv m e)) (hf:mv m e<p2 (F0 k)):∃ m' e',k.decode (k.encode (.number s m e)) = .number s m' e'∧mv m' e'=mv m e:=by
 obtain ⟨m',e',r1,-,-,r4⟩:=LU k s m e h Rat.le_refl hf
 obtain ⟨c1,c2⟩:=r4 _ h
 have h1:=c1 Rat.le_refl
 have h2:=c2 Rat.le_refl
 exact ⟨m',e',r1,by grind⟩
theorem Ky {x:Nat} {s:Bool} {m:Nat} {e:Int} (h:FloatKind.f32.decode x = .number s m e):B7 x=FloatKind.f64.encode (.number s m e)∧∃ m' e',FloatKind.f64.decode (B7 x) = .number s m' e'∧mv m' e'=mv m e:=by
 obtain ⟨h1,h2,h3⟩:=Dg (x:=x) h
 have hr:C0 .f64 (mv m e):=⟨m,e,Nat.le_trans (Nat.le_of_lt h1) (by decide),(show (-1074:Int)≤e by omega),rfl⟩
 obtain ⟨m',e',r1,r2⟩:=H7 .f64 s hr (cM (Pg h) (Ja (by decide)))
 have hw:=CP x
 unfold Aj at hw
 rw[if_neg (by decide),h] at hw
 simp only[r1,Ieee.Datum.isInfinity] at hw
 have hw:FloatKind.f64.encode (.number s m e)=B7 x:=by simpa using hw
 rw[← hw]
 exact ⟨rfl,m',e',r1,r2⟩
theorem TB {x:Nat} (hx:x<4294967296) (hn:isNaN .f32 x=false):Aj .f64 (B7 x) .f32=some x:=by
 have hw:=CP x
 unfold Aj at hw
 rw[if_neg (by decide)] at hw
 cases hd:FloatKind.f32.decode x with
 | nan s t=>unfold isNaN at hn;rw[hd] at hn;cases hn
 | infinity s =>
   rw[hd] at hw
   simp only[zS] at hw
   rw[← hw]
   have hd:FloatKind.f32.format.read x = .infinity s:=hd
   have hxx:x=FloatKind.f32.encode (.infinity s):=by
    unfold Ieee.Format.read at hd
    by_cases c1:x % FloatKind.f32.format.signWeight<FloatKind.f32.format.binade
    ·simp only[if_pos c1] at hd;cases hd
    ·by_cases c2:x % FloatKind.f32.format.signWeight<FloatKind.f32.format.infRung
     ·simp only[if_neg c1,if_pos c2] at hd;cases hd
     ·by_cases c3:x % FloatKind.f32.format.signWeight=FloatKind.f32.format.infRung
      ·simp only[if_neg c1,if_neg c2,if_pos c3] at hd
       have hs:(x / FloatKind.f32.format.signWeight % 2==1)=s:=by cases hd;rfl
       have e1:FloatKind.f32.format.signWeight=2147483648:=rfl
       have e2:FloatKind.f32.format.infRung=2139095040:=rfl
       rw[e1] at c3 hs
       rw[e2] at c3
       cases s
       ·have:¬ (x / 2147483648 % 2=1):=by simpa using hs
        show x=2139095040
        omega
       ·have:x / 2147483648 % 2=1:=by simpa using hs
        show x=2147483648+2139095040
        omega
      ·simp only[if_neg c1,if_neg c2,if_neg c3] at hd;cases hd
   rw[hxx]
   cases s <;>rfl
 | number s m e =>
   obtain ⟨-,m',e',k1,k2⟩:=Ky hd
   obtain ⟨h1,h2,h3⟩:=Dg (x:=x) hd
   have hr:C0 .f32 (mv m' e'):=⟨m,e,Nat.le_trans (Nat.le_of_lt h1) (by decide),h2,k2⟩
   obtain ⟨m2,e2,r1,r2⟩:=H7 .f32 s hr (by
    rw[k2]
    have h4:mv m e<mv (2 ^ 24) e:=IR.2 h1
    rw[B5] at h4
    have h5:p2 (e+((24:Nat):Int))≤p2 128:=H8 (by omega)
    show mv m e<p2 128
    grind)
   unfold Aj
   rw[if_neg (by decide),k1]
   simp only[r1,Ieee.Datum.isInfinity]
   have hz:FloatKind.f32.encode (.number s m' e')<2 * FloatKind.f32.format.signWeight:=by
    show FloatKind.f32.format.nearest s m' e'<_
    rw[FV]
    exact MU _ _ (EJ _ _ _)
   have:=SR (k:=.f32) hz (show x<2 * FloatKind.f32.format.signWeight from hx) r1 hd (by rw[r2,k2])
   rw[this];simp
def B6 (x:Nat):Nat:=if isNaN .f32 x then EW .f32 else x % 2147483648
theorem Gd {x:Nat}:(∀ s m e,FloatKind.f32.decode x = .number s m e→FloatKind.f32.decode (x % 2147483648) = .number false m e)∧(∀ s,FloatKind.f32.decode x = .infinity s→FloatKind.f32.decode (x % 2147483648) = .infinity false):=by
 have hw:FloatKind.f32.format.signWeight=2147483648:=rfl
 have hr:x % 2147483648 % FloatKind.f32.format.signWeight=x % FloatKind.f32.format.signWeight:=by rw[hw,Nat.mod_mod]
 have hs:(x % 2147483648 / FloatKind.f32.format.signWeight % 2==1)=false:=by
  rw[hw,Nat.div_eq_of_lt (Nat.mod_lt _ (by decide))];rfl
 constructor
 ·intro s m e h
  have h:FloatKind.f32.format.read x = .number s m e:=h
  show FloatKind.f32.format.read (x % 2147483648)=_
  unfold Ieee.Format.read at h ⊢
  simp only[hr,hs]
  by_cases c1:x % FloatKind.f32.format.signWeight<FloatKind.f32.format.binade
  ·simp only[if_pos c1] at h ⊢;cases h;rfl
  ·by_cases c2:x % FloatKind.f32.format.signWeight<FloatKind.f32.format.infRung
   ·simp only[if_neg c1,if_pos c2] at h ⊢;cases h;rfl
   ·by_cases c3:x % FloatKind.f32.format.signWeight=FloatKind.f32.format.infRung
    ·simp only[if_neg c1,if_neg c2,if_pos c3] at h;cases h
    ·simp only[if_neg c1,if_neg c2,if_neg c3] at h;cases h
 ·intro s h
  have h:FloatKind.f32.format.read x = .infinity s:=h
  show FloatKind.f32.format.read (x % 2147483648)=_
  unfold Ieee.Format.read at h ⊢
  simp only[hr,hs]
  by_cases c1:x % FloatKind.f32.format.signWeight<FloatKind.f32.format.binade
  ·simp only[if_pos c1] at h;cases h
  ·by_cases c2:x % FloatKind.f32.format.signWeight<FloatKind.f32.format.infRung
   ·simp only[if_neg c1,if_pos c2] at h;cases h
   ·by_cases c3:x % FloatKind.f32.format.signWeight=FloatKind.f32.format.infRung
    ·simp only[if_neg c1,if_neg c2,if_pos c3]
    ·simp only[if_neg c1,if_neg c2,if_neg c3] at h;cases h
theorem TM (s:Bool) {r:Nat} (h:r≤FloatKind.f64.format.infRung):FloatKind.f64.format.word s r % 9223372036854775808=r:=by
 have h1:FloatKind.f64.format.infRung=9218868437227405312:=rfl
 have h2:FloatKind.f64.format.signWeight=9223372036854775808:=rfl
 unfold Ieee.Format.word
 rw[h2]
 rw[h1] at h
 split <;>omega
theorem Ip {x:Nat} (hn:isNaN .f32 x=false):B7 x % 9223372036854775808=B7 (x % 2147483648)∧isNaN .f64 (B7 x)=false∧B7 x<18446744073709551616:=by
 have h2:(2 * FloatKind.f64.format.signWeight:Nat)=18446744073709551616:=rfl
 cases hd:FloatKind.f32.decode x with
 | nan s t=>unfold isNaN at hn;rw[hd] at hn;cases hn
 | infinity s =>
   have e1:∀ y t,FloatKind.f32.decode y = .infinity t→B7 y=FloatKind.f64.encode (.infinity t):=by
    intro y t h
    have hw:=CP y
    unfold Aj at hw
    rw[if_neg (by decide),h] at hw
    simpa using hw.symm
   rw[e1 _ _ hd,e1 _ _ (Gd.2 s hd)]
   cases s <;>refine ⟨by decide,by decide,by decide⟩
 | number s m e =>
   obtain ⟨w1,m',e',k1,-⟩:=Ky hd
   obtain ⟨w2,-⟩:=Ky (Gd.1 s m e hd)
   refine ⟨?_,by unfold isNaN;rw[k1];rfl,?_⟩
   ·rw[w1,w2]
    show FloatKind.f64.format.nearest s m e % _=FloatKind.f64.format.nearest false m e
    rw[FV,TM _ (EJ _ _ _)]
   ·rw[w1,← h2]
    show FloatKind.f64.format.nearest s m e<_
    rw[FV]
    exact MU _ _ (EJ _ _ _)
theorem XK {x:Nat} (hx:x<4294967296) (hc:As .f32 x=x) (n:Nat):Oe (n+1) (B7 x)=some (Me (B7 x))∧Aj .f64 (Me (B7 x)) .f32=some (B6 x):=by
 cases hn:isNaN .f32 x
 ·obtain ⟨h1,h2,h3⟩:=Ip hn
  refine ⟨by show (if B7 x<18446744073709551616 then some (Me (B7 x)) else none)=_;rw[if_pos h3],?_⟩
  have e1:Me (B7 x)=B7 (x % 2147483648):=by unfold Me;rw[h2,← h1];rfl
  have e2:B6 x=x % 2147483648:=by unfold B6;rw[hn];rfl
  rw[e1,e2]
  refine TB (by omega) ?_
  rw[Is] at hn ⊢
  rw[Nat.mod_mod];exact hn
 ·have hq:x=EW .f32:=by rw[← hc,BU hn]
  subst hq
  refine ⟨?_,by decide +kernel⟩
  show (if B7 (EW .f32)<18446744073709551616 then some (Me (B7 (EW .f32))) else none)=_
  rw[if_pos (by decide +kernel)]
theorem KS (k:FloatKind):Br k 0 0:=by
 have h:k.decode 0 = .number false 0 k.format.leastPlace:=by cases k <;>decide
 have:=BI h
 rwa [A4,CZ] at this
theorem YY (k:FloatKind) (x:Nat):Uj k x x=isNaN k x:=by
 rw[Q1]
 cases h:isNaN k x
 ·rw[WR h];rfl
 ·obtain ⟨s,t,e⟩:=GB h
  simp[RQ,Ieee.Format.order,e,Ieee.Datum.order]
theorem Ue.lt32 {x:Nat} (h:Ue .f32 x):x<4294967296:=by
 have:=h.2
 simpa [Lit.wf] using this
theorem Ac {α:Type} (x y:Option α):br true x y=x:=rfl
theorem Al {α:Type} (x y:Option α):br false x y=y:=rfl
theorem BJ {α:Type} (x:Option α):gd true x=x:=rfl
theorem AM {α β:Type} (a:α) (k:α→Option β):bd (some a) k=k a:=rfl
theorem iP {A B γ:Type} (a:A) (f:A→γ) (g:B→γ):sm (.inl a) f g=f a:=rfl
theorem Yr {A B γ:Type} (a:B) (f:A→γ) (g:B→γ):sm (.inr a) f g=g a:=rfl
theorem Jr {α:Type} (b:Bool) (x y:Option α):br (!b) x y=br b y x:=by cases b <;>rfl
section
variable {p zs:List Nat} {z:Nat} {k:FloatKind}
theorem Dl:CY (AV k (p++z::zs)) p.length=z:=by simp[Em,List.getD]
theorem Cv:AR [.flt k] (AV k (p++z::zs)) p.length=true:=B9 (by simp)
theorem Cz {α:Type} (p:List α):((p.length:Nat):Int).toNat=p.length:=rfl
end
section
variable {p zs:List Int} {z:Int} {k:IntKind}
end
section
variable {α:Type} {p zs:List α} {z:α}
theorem Gt:decide ((p.length:Int)<((p++z::zs).length:Int))=true:=by simp;omega
theorem FJ:decide ((0:Int)≤(p.length:Int)∧(p.length:Int)<((p++z::zs).length:Int))=true:=by simp;omega
theorem Gu:decide ((p.length:Int)<((p++[]).length:Int))=false:=by simp
theorem Df (h:p.length<4611686018427387904):IntKind.i64.wrap ((p.length:Int)+1)=(((p++[z]).length:Nat):Int):=by rw[Ar (by omega)];simp
theorem BA (h:p.length<2147483648):Nat.ble (p.length+1) 2147483648=true:=by rw[Nat.ble_eq];omega
theorem Bb:p.length+1=(p++[z]).length:=by simp
end
theorem Dh (k:FloatKind) (p:List Nat) (y:Nat):AV k p++AF (reps 1 [T.flt k 0]) 0 [T.flt k y]=AV k (p++[y]):=by simp[AV,AF,reps]
theorem Gv (k:FloatKind) (xs:List Nat) (i:Nat):(AV k xs).take i=AV k (xs.take i):=by simp[AV,List.map_take]
theorem Kh (k:FloatKind) (xs:List Nat) (i:Nat):(AV k xs).drop i=AV k (xs.drop i):=by simp[AV,List.map_drop]
def Bj (x:Nat):Prop:=x<4294967296∧As .f32 x=x
theorem Ue.w32 {x:Nat} (h:Ue .f32 x):Bj x:=⟨h.lt32,h.1⟩
theorem G2:Bj (EW .f32):=⟨by decide,by decide⟩
theorem Kt (k:FloatKind) {d:Ieee.Datum} (h:∀ s t,d ≠ .nan s t):k.format.write d<2 * k.format.signWeight:=by
 cases d with
 | nan s t=>exact absurd rfl (h s t)
 | infinity s=>exact MU k s (Nat.le_refl _)
 | number s m e =>
   show k.format.nearest s m e<_
   rw[FV]
   exact MU k s (EJ k m e)
theorem I3 {d:Ieee.Datum} (h:∀ s t,d ≠ .nan s t):Bj (FloatKind.f32.format.write d):=⟨Kt .f32 h,A3 (Ft h)⟩
theorem CO (x y:Nat):Bj (BD .f32 x y):=by
 unfold BD Ieee.Format.add
 cases h:(FloatKind.f32.format.read x).sum (FloatKind.f32.format.read y) with
 | none=>exact G2
 | some d=>exact I3 (fun s t e=>FB h s t e)
theorem EU (x y:Nat):Bj (BW .f32 x y):=by
 unfold BW Ieee.Format.sub
 cases h:(FloatKind.f32.format.read x).sum (FloatKind.f32.format.read y).opposite with
 | none=>exact G2
 | some d=>exact I3 (fun s t e=>FB h s t e)
theorem Gy (x y:Nat):Bj (AT .f32 x y):=by
 unfold AT Ieee.Format.mul
 cases h:(FloatKind.f32.format.read x).product (FloatKind.f32.format.read y) with
 | none=>exact G2
 | some d=>exact I3 (fun s t e=>FG h s t e)
theorem EO (x y:Nat):Bj (fdiv .f32 x y):=by
 unfold fdiv Ieee.Format.div
 cases h:(FloatKind.f32.format.read x).quotient (FloatKind.f32.format.fractionBits+2) (FloatKind.f32.format.read y) with
 | none=>exact G2
 | some d=>exact I3 (fun s t e=>G1 h s t e)
theorem V3 {x:Nat} (h:x<4294967296):Bj (As .f32 x):=by
 unfold As
 split
 ·exact G2
 ·rename_i hn
  exact ⟨h,by rw[A3 (by simpa using hn)]⟩
theorem Bw:Bj 0:=⟨by decide,by decide⟩
def Dd (bs:List Int):Prop:=∀ b∈bs,0≤b∧b≤255
theorem Ig {bs:List Int} (h:∀ b∈bs,IX .u8 b):Dd bs:=fun b hb=>by
 have:=h b hb
 unfold IX at this
 have e1:IntKind.u8.min=0:=by decide
 have e2:IntKind.u8.max=255:=by decide
 omega
theorem RI (n:Nat):IntKind.u64.wrap (n:Int)=(n:Int) % 18446744073709551616:=by simp[IntKind.wrap,IntKind.bits,IntKind.signed]
theorem WL {i:Int} (h0:0≤i) (h1:i<4294967296):IntKind.u32.wrap i=i:=by
 rw[show IntKind.u32.wrap i=i % 4294967296 by simp[IntKind.wrap,IntKind.bits,IntKind.signed]]
 omega
theorem Wo (x:Int):0≤IntKind.i64.wrap (intBits BinOp.and IntKind.u64 x 255)∧IntKind.i64.wrap (intBits BinOp.and IntKind.u64 x 255)≤255:=by
 have h:(BitVec.ofInt 64 x &&& BitVec.ofInt 64 255).toNat≤255:=by
  rw[BitVec.toNat_and,show (BitVec.ofInt 64 255).toNat=255 by decide]
  exact Nat.and_le_right
 have e:intBits BinOp.and IntKind.u64 x 255=(((BitVec.ofInt 64 x &&& BitVec.ofInt 64 255).toNat:Nat):Int):=by
  show IntKind.u64.wrap (((BitVec.ofInt 64 x &&& BitVec.ofInt 64 255).toNat:Nat):Int)=_
  rw[RI];omega
 rw[e,A6] <;>omega
def K0 (x:Nat):Prop:=∃ m:Int,(-64≤m∧m≤64)∧(x=fdiv .f32 (FloatKind.f32.nearest m) 1088421888∨x=fdiv .f32 (FloatKind.f32.nearest m) 1098907648)
theorem K0.w32 {x:Nat} (h:K0 x):Bj x:=by
 obtain ⟨m,-,rfl | rfl⟩:=h <;>exact EO _ _
section
variable {σ α β:Type}
def Ai (f:σ→α→β × σ):σ→List α→List β × σ
 | s,[]=>([],s)
 | s,x::xs=>((f s x).1::(Ai f (f s x).2 xs).1,(Ai f (f s x).2 xs).2)
theorem IW (f:σ→α→β × σ):∀ (s:σ) (xs:List α),(Ai f s xs).1.length=xs.length
 | s,[]=>rfl
 | s,x::xs=>by simp only[Ai,length_cons,IW f _ xs]
end
def Ea (k:FloatKind) (x:Nat):Nat:=x % k.format.signWeight
def Uv (k:FloatKind) (x:Nat):Bool:=x / k.format.signWeight % 2==1
def key (k:FloatKind) (x:Nat):Int:=if Uv k x then -(Ea k x:Int) else (Ea k x:Int)
theorem J5 (k:FloatKind):0<k.format.binade:=by cases k <;>decide
theorem KU {k:FloatKind} {x:Nat} {s:Bool} (h:k.decode x = .infinity s):Ea k x=k.format.infRung∧Uv k x=s:=by
 have h:k.format.read x = .infinity s:=h
 unfold Ieee.Format.read at h
 by_cases c1:x % k.format.signWeight<k.format.binade
 ·simp only[if_pos c1] at h;cases h
 ·by_cases c2:x % k.format.signWeight<k.format.infRung
  ·simp only[if_neg c1,if_pos c2] at h;cases h
  ·by_cases c3:x % k.format.signWeight=k.format.infRung
   ·simp only[if_neg c1,if_neg c2,if_pos c3] at h;cases h;exact ⟨c3,rfl⟩
   ·simp only[if_neg c1,if_neg c2,if_neg c3] at h;cases h
theorem EL {k:FloatKind} {x:Nat} {s:Bool} {m:Nat} {e:Int} (h:k.decode x = .number s m e):Ea k x<k.format.infRung∧Uv k x=s:=by
 refine ⟨?_,(D2 h).2.2.2.2⟩
 have h:k.format.read x = .number s m e:=h
 unfold Ieee.Format.read at h
 have hb:k.format.binade<k.format.infRung:=by cases k <;>decide
 by_cases c1:x % k.format.signWeight<k.format.binade
 ·unfold Ea;omega
 ·by_cases c2:x % k.format.signWeight<k.format.infRung
  ·exact c2
  ·by_cases c3:x % k.format.signWeight=k.format.infRung
   ·simp only[if_neg c1,if_neg c2,if_pos c3] at h;cases h
   ·simp only[if_neg c1,if_neg c2,if_neg c3] at h;cases h
theorem Xx {k:FloatKind} {x y:Nat} {s t:Bool} {m n:Nat} {i j:Int} (h:k.decode x = .number s m i) (h':k.decode y = .number t n j) (hl:Ea k x<Ea k y):mv m i<mv n j:=by
 obtain ⟨a1,a2,a3,a4,-⟩:=D2 h
 obtain ⟨b1,b2,b3,b4,-⟩:=D2 h'
 unfold Ea at hl
 rw[a4,b4] at hl
 have hB:=J5 k
 generalize k.format.binade=B at *
 generalize k.format.leastPlace=L at *
 rcases Int.lt_trichotomy i j with hij | rfl | hij
 ·have e1:mv n j=mv (n * 2 ^ (j - i).toNat) i:=by rw[BT];congr 1;omega
  rw[e1,IR]
  have h6:=b3 (by omega)
  have h7:2 ^ 1≤2 ^ (j - i).toNat:=Nat.pow_le_pow_right (by decide) (by omega)
  have h8:B * 2≤n * 2 ^ (j - i).toNat:=Nat.mul_le_mul h6 h7
  omega
 ·rw[IR];omega
 ·exfalso
  have h6:=a3 (by omega)
  have:(i - L).toNat=(j - L).toNat+(i - j).toNat:=by omega
  rw[this,Nat.add_mul] at hl
  have:B≤(i - j).toNat * B:=Nat.le_mul_of_pos_left B (by omega)
  omega
theorem Wg {k:FloatKind} {x y:Nat} {s t:Bool} {m n:Nat} {i j:Int} (h:k.decode x = .number s m i) (h':k.decode y = .number t n j) (hl:Ea k x=Ea k y):mv m i=mv n j:=by
 obtain ⟨a1,a2,a3,a4,-⟩:=D2 h
 obtain ⟨b1,b2,b3,b4,-⟩:=D2 h'
 unfold Ea at hl
 rw[a4,b4] at hl
 have hB:=J5 k
 generalize k.format.binade=B at *
 generalize k.format.leastPlace=L at *
 have:i=j:=by
  rcases Int.lt_trichotomy i j with hij | e | hij
  ·exfalso
   have h6:=b3 (by omega)
   have:(j - L).toNat=(i - L).toNat+(j - i).toNat:=by omega
   rw[this,Nat.add_mul] at hl
   have:B≤(j - i).toNat * B:=Nat.le_mul_of_pos_left B (by omega)
   omega
  ·exact e
  ·exfalso
   have h6:=a3 (by omega)
   have:(i - L).toNat=(j - L).toNat+(i - j).toNat:=by omega
   rw[this,Nat.add_mul] at hl
   have:B≤(i - j).toNat * B:=Nat.le_mul_of_pos_left B (by omega)
   omega
 subst this
 have:m=n:=by omega
 rw[this]
theorem ID {k:FloatKind} {x:Nat} {s:Bool} {m:Nat} {i:Int} (h:k.decode x = .number s m i):(Ea k x=0↔mv m i=0):=by
 obtain ⟨a1,a2,a3,a4,-⟩:=D2 h
 have hB:=J5 k
 unfold Ea
 rw[a4]
 constructor
 ·intro h0
  have:m=0:=by omega
  rw[this,CZ]
 ·intro h0
  have hm:m=0:=by
   rcases Nat.eq_zero_or_pos m with e | e
   ·exact e
   ·have h1:mv 0 i<mv m i:=IR.2 e
    rw[CZ,h0] at h1
    exact absurd h1 (by decide)
  subst hm
  have:¬ k.format.leastPlace<i:=fun h1=>by have:=a3 h1;omega
  have:(i - k.format.leastPlace).toNat=0:=by omega
  rw[this];simp
theorem CG (a b:Int):(a<b∧compare a b = .lt)∨(a=b∧compare a b = .eq)∨(b<a∧compare a b = .gt):=by
 rcases Int.lt_trichotomy a b with h1 | h1 | h1
 ·exact .inl ⟨h1,by simp[compare,compareOfLessAndEq,h1]⟩
 ·subst h1;exact .inr (.inl ⟨rfl,by simp[compare,compareOfLessAndEq]⟩)
 ·exact .inr (.inr ⟨h1,by simp only[compare,compareOfLessAndEq];rw[if_neg (by omega),if_neg (by omega)]⟩)
theorem OE {k:FloatKind} {x y:Nat} {s t:Bool} {m n:Nat} {i j:Int} (h:k.decode x = .number s m i) (h':k.decode y = .number t n j) (hl:key k x<key k y):sg s (mv m i)<sg t (mv n j):=by
 have hs:=(EL h).2
 have ht:=(EL h').2
 unfold key at hl
 rw[hs,ht] at hl
 have z1:=ID h
 have z2:=ID h'
 have p1:=Aq m i
 have p2:=Aq n j
 cases s <;>cases t <;>simp only[Bool.false_eq_true,if_false,if_true,sg] at hl ⊢
 ·exact Xx h h' (by omega)
 ·omega
 ·rcases Nat.eq_zero_or_pos (Ea k y) with e | e
  ·have:0<Ea k x:=by omega
   have:mv m i≠0:=fun h0=>by rw[z1.2 h0] at this;omega
   have h0:=z2.1 e
   rw[h0];grind
  ·have:mv n j≠0:=fun h0=>by rw[z2.2 h0] at e;omega
   grind
 ·have:=Xx h' h (by omega)
  grind
theorem UK {k:FloatKind} {x y:Nat} {s t:Bool} {m n:Nat} {i j:Int} (h:k.decode x = .number s m i) (h':k.decode y = .number t n j) (hl:key k x=key k y):sg s (mv m i)=sg t (mv n j):=by
 have hs:=(EL h).2
 have ht:=(EL h').2
 unfold key at hl
 rw[hs,ht] at hl
 have z1:=ID h
 have z2:=ID h'
 cases s <;>cases t <;>simp only[Bool.false_eq_true,if_false,if_true,sg] at hl ⊢
 ·exact Wg h h' (by omega)
 ·rw[z1.1 (by omega),z2.1 (by omega)];rfl
 ·rw[z1.1 (by omega),z2.1 (by omega)];rfl
 ·rw[Wg h h' (by omega)]
theorem Vo {k:FloatKind} {x y:Nat} (hx:isNaN k x=false) (hy:isNaN k y=false):k.format.order x y=some (compare (key k x) (key k y)):=by
 have inf_pos:∀ {z:Nat} {s:Bool},k.decode z = .infinity s→key k z=if s then -(k.format.infRung:Int) else (k.format.infRung:Int):=by
  intro z s h
  obtain ⟨h1,h2⟩:=KU h
  unfold key;rw[h1,h2]
 have fin_lt:∀ {z:Nat} {s:Bool} {m:Nat} {e:Int},k.decode z = .number s m e → -(k.format.infRung:Int)<key k z∧key k z<(k.format.infRung:Int):=by
  intro z s m e h
  obtain ⟨h1,h2⟩:=EL h
  unfold key;rw[h2]
  cases s <;>simp only[Bool.false_eq_true,if_false,if_true] <;>omega
 have hI:(0:Int)<(k.format.infRung:Int):=by cases k <;>decide
 have lt_c:∀ a b:Int,a<b→compare a b = .lt:=fun a b h=>by rcases CG a b with ⟨h1,e⟩ | ⟨h1,e⟩ | ⟨h1,e⟩ <;>first | exact e | omega
 have gt_c:∀ a b:Int,b<a→compare a b = .gt:=fun a b h=>by rcases CG a b with ⟨h1,e⟩ | ⟨h1,e⟩ | ⟨h1,e⟩ <;>first | exact e | omega
 have eq_c:∀ a b:Int,a=b→compare a b = .eq:=fun a b h=>by rcases CG a b with ⟨h1,e⟩ | ⟨h1,e⟩ | ⟨h1,e⟩ <;>first | exact e | omega
 unfold isNaN at hx hy
 cases h1:k.decode x with
 | nan s f=>rw[h1] at hx;simp[Ieee.Datum.isNaN] at hx
 | infinity s =>
   cases h2:k.decode y with
   | nan s f=>rw[h2] at hy;simp[Ieee.Datum.isNaN] at hy
   | infinity t =>
     have e1:k.format.read x = .infinity s:=h1
     have e2:k.format.read y = .infinity t:=h2
     simp only[Ieee.Format.order,e1,e2,Ieee.Datum.order]
     rw[inf_pos h1,inf_pos h2]
     cases s <;>cases t <;>simp only[Bool.false_eq_true,if_false,if_true]
     ·rw[eq_c _ _ rfl];rfl
     ·rw[gt_c _ _ (by omega)];rfl
     ·rw[lt_c _ _ (by omega)];rfl
     ·rw[eq_c _ _ rfl];rfl
   | number t n j =>
     have e1:k.format.read x = .infinity s:=h1
     have e2:k.format.read y = .number t n j:=h2
     have:=fin_lt h2
     simp only[Ieee.Format.order,e1,e2,Ieee.Datum.order]
     rw[inf_pos h1]
     cases s <;>simp only[Bool.false_eq_true,if_false,if_true]
     ·rw[gt_c _ _ (by omega)]
     ·rw[lt_c _ _ (by omega)]
 | number s m i =>
   cases h2:k.decode y with
   | nan s f=>rw[h2] at hy;simp[Ieee.Datum.isNaN] at hy
   | infinity t =>
     have e1:k.format.read x = .number s m i:=h1
     have e2:k.format.read y = .infinity t:=h2
     have:=fin_lt h1
     simp only[Ieee.Format.order,e1,e2,Ieee.Datum.order]
     rw[inf_pos h2]
     cases t <;>simp only[Bool.false_eq_true,if_false,if_true]
     ·rw[lt_c _ _ (by omega)]
     ·rw[gt_c _ _ (by omega)]
   | number t n j =>
     obtain ⟨o1,o2,o3⟩:=Dr (BI h1) (BI h2)
     rcases CG (key k x) (key k y) with ⟨h3,e⟩ | ⟨h3,e⟩ | ⟨h3,e⟩
     ·rw[e];exact o1.2 (OE h1 h2 h3)
     ·rw[e];exact o2.2 (UK h1 h2 h3)
     ·rw[e];exact o3.2 (OE h2 h1 h3)
section
variable {k:FloatKind} {x y:Nat}
theorem Ph (h:isNaN k x=true∨isNaN k y=true):k.format.order x y=none:=by
 unfold isNaN FloatKind.decode at h
 unfold Ieee.Format.order
 rcases h with h | h
 ·cases hr:k.format.read x with
  | nan s t=>simp[Ieee.Datum.order]
  | infinity s=>rw[hr] at h;cases h
  | number s m e=>rw[hr] at h;cases h
 ·cases hr:k.format.read y with
  | nan s t=>cases k.format.read x <;>simp[Ieee.Datum.order]
  | infinity s=>rw[hr] at h;cases h
  | number s m e=>rw[hr] at h;cases h
def Ib (k:FloatKind) (x y:Nat):Bool:=!isNaN k x && !isNaN k y
theorem GK:k.format.order x y=if Ib k x y then some (compare (key k x) (key k y)) else none:=by
 unfold Ib
 cases hx:isNaN k x
 ·cases hy:isNaN k y
  ·exact Vo hx hy
  ·exact Ph (.inr hy)
 ·exact Ph (.inl hx)
theorem Yo:flt k x y=(Ib k x y&&decide (key k x<key k y)):=by
 unfold flt
 rw[GK]
 cases Ib k x y
 ·rfl
 ·rcases CG (key k x) (key k y) with ⟨h,e⟩ | ⟨h,e⟩ | ⟨h,e⟩ <;>rw[if_pos rfl,e] <;>simp <;>omega
theorem Y5:H2 k x y=(Ib k x y&&decide (key k y<key k x)):=by
 unfold H2
 rw[GK]
 cases Ib k x y
 ·rfl
 ·rcases CG (key k x) (key k y) with ⟨h,e⟩ | ⟨h,e⟩ | ⟨h,e⟩ <;>rw[if_pos rfl,e] <;>simp <;>omega
theorem Uh:RQ k x y=(Ib k x y&&decide (key k x=key k y)):=by
 unfold RQ
 rw[GK]
 cases Ib k x y
 ·rfl
 ·rcases CG (key k x) (key k y) with ⟨h,e⟩ | ⟨h,e⟩ | ⟨h,e⟩ <;>rw[if_pos rfl,e] <;>simp <;>omega
theorem ZK:UM k x y=(Ib k x y&&decide (key k x≤key k y)):=by
 unfold UM
 rw[GK]
 cases Ib k x y
 ·rfl
 ·rcases CG (key k x) (key k y) with ⟨h,e⟩ | ⟨h,e⟩ | ⟨h,e⟩ <;>rw[if_pos rfl,e] <;>simp <;>omega
theorem Y3:LH k x y=(Ib k x y&&decide (key k y≤key k x)):=by
 unfold LH
 rw[GK]
 cases Ib k x y
 ·rfl
 ·rcases CG (key k x) (key k y) with ⟨h,e⟩ | ⟨h,e⟩ | ⟨h,e⟩ <;>rw[if_pos rfl,e] <;>simp <;>omega
theorem ZS:Uj k x y = !(Ib k x y&&decide (key k x=key k y)):=by rw[Q1,Uh]
end
theorem Lv {x:Nat} (h:x<4294967296):key .f32 x=if x<2147483648 then (x:Int) else -((x:Int) - 2147483648):=by
 have hw:FloatKind.f32.format.signWeight=2147483648:=rfl
 unfold key Uv Ea
 rw[hw]
 by_cases c:x<2147483648
 ·rw[if_pos c,Nat.div_eq_of_lt c,Nat.mod_eq_of_lt c];rfl
 ·have:x / 2147483648=1:=by omega
  rw[if_neg c,this,if_pos (by decide)]
  omega
theorem Wm {x:Nat} (h:x<4294967296) (hn:isNaN .f32 x=false):K7 .f32 x=if x<2147483648 then x+2147483648 else x - 2147483648:=by
 unfold K7
 rw[hn,if_neg (by decide)]
 show x ^^^ 2 ^ 31=_
 have key:∀ y:Nat,y<2147483648→y ^^^ 2 ^ 31=y+2147483648:=by
  intro y hy
  rw[Nat.add_comm,show (2147483648:Nat)=2 ^ 31 * 1 from rfl,Nat.two_pow_add_eq_or_of_lt (i:=31) (by simpa using hy)]
  apply Nat.eq_of_testBit_eq
  intro i
  rw[Nat.testBit_xor,Nat.testBit_or,Nat.mul_one,Nat.testBit_two_pow]
  by_cases e:31=i
  ·subst e;rw[Nat.testBit_lt_two_pow (by simpa using hy)];rfl
  ·simp[e]
 split
 ·rename_i c;exact key x c
 ·rename_i c
  have:=key (x - 2147483648) (by omega)
  rw[show x - 2147483648+2147483648=x by omega] at this
  rw[← this,Nat.xor_assoc,Nat.xor_self,Nat.xor_zero]
  rw[this]
theorem PV {x:Nat}:isNaN .f32 x=decide (2139095040<x % 2147483648):=Is x
theorem Qk {x:Nat} (h:x<4294967296) (hn:isNaN .f32 x=false):isNaN .f32 (K7 .f32 x)=false:=by
 rw[Wm h hn]
 rw[PV] at hn ⊢
 simp at hn ⊢
 split <;>omega
theorem YE {x:Nat} (h:Bj x):Bj (K7 .f32 x):=by
 cases hn:isNaN .f32 x
 ·refine ⟨?_,A3 (Qk h.1 hn)⟩
  rw[Wm h.1 hn];have:=h.1;split <;>omega
 ·unfold K7;rw[hn];exact G2
def SM (xs:List Nat):T:=.lst xs.length (AV .f32 xs)
section
variable {p zs:List (List Int)} {z:List Int}
end
section
variable {p zs:List (List Nat)} {z:List Nat}
end
def IV (x:Nat):Nat:=if x % 2147483648<8388608 then x / 2147483648 * 2147483648 else x
def Pr (x:Nat):Bool:=decide (0<x % 2147483648∧x % 2147483648<8388608)
theorem LM {x:Nat} (h:Bj x):Bj (IV x):=by
 unfold IV
 split
 ·have:=h.1
  refine ⟨by omega,A3 ?_⟩
  rw[PV];simp
 ·exact h
theorem YV {x:Nat} (h:x<4294967296):(Uj .f32 x 0&&(flt .f32 x 8388608&&H2 .f32 x 2155872256))=Pr x:=by
 have e0:isNaN .f32 0=false:=by decide
 have e1:isNaN .f32 8388608=false:=by decide
 have e2:isNaN .f32 2155872256=false:=by decide
 rw[ZS,Yo,Y5]
 unfold Ib
 rw[e0,e1,e2,Lv h,Lv (show 0<4294967296 by decide),Lv (show 8388608<4294967296 by decide),Lv (show 2155872256<4294967296 by decide)]
 unfold Pr
 cases hn:isNaN .f32 x
 ·rw[Bool.eq_iff_iff]
  simp
  split <;>omega
 ·rw[PV] at hn
  simp at hn
  rw[Bool.eq_iff_iff]
  simp
  omega
theorem V0 {x:Nat} (h:x<4294967296) (hn:isNaN .f32 x=false):B7 x / 9223372036854775808=x / 2147483648:=by
 obtain ⟨-,h2,h3⟩:=Ip hn
 have hs:(B7 x / 9223372036854775808 % 2==1)=(x / 2147483648 % 2==1):=by
  cases hd:FloatKind.f32.decode x with
  | nan s t=>unfold isNaN at hn;rw[hd] at hn;cases hn
  | infinity s =>
    have e1:=(KU hd).2
    have e2:B7 x=FloatKind.f64.encode (.infinity s):=by unfold B7 Aj;rw[if_neg (by decide),hd]
    have e3:FloatKind.f64.decode (B7 x) = .infinity s:=by rw[e2];cases s <;>decide
    have e4:=(KU e3).2
    exact e4.trans e1.symm
  | number s m e =>
    have e1:=(EL hd).2
    obtain ⟨-,m',e',e3,-⟩:=Ky hd
    have e4:=(EL e3).2
    exact e4.trans e1.symm
 rw[Bool.eq_iff_iff] at hs
 simp only[beq_iff_eq] at hs
 omega
theorem L6:Aj .f64 0 .f32=some 0∧Aj .f64 9223372036854775808 .f32=some 2147483648:=by decide
theorem U8 (n:Nat) {x:Nat} (h:x<4294967296) (hn:isNaN .f32 x=false):∃ y,Ei (n+1) 0 (B7 x)=some y∧Aj .f64 y .f32=some (x / 2147483648 * 2147483648):=by
 obtain ⟨-,h2,h3⟩:=Ip hn
 have hs:=V0 h hn
 have e0:isNaN .f64 0=false:=by decide
 refine ⟨B7 x / 9223372036854775808 * 9223372036854775808,?_,?_⟩
 ·show (if isNaN .f64 (B7 x) then none else if isNaN .f64 0 then none else if 0<18446744073709551616∧B7 x<18446744073709551616 then some (0 % 9223372036854775808+B7 x / 9223372036854775808 * 9223372036854775808) else none)=_
  rw[h2,e0,if_neg (by decide),if_neg (by decide),if_pos ⟨by decide,h3⟩]
  simp
 ·rw[hs]
  have:x / 2147483648=0∨x / 2147483648=1:=by omega
  rcases this with e | e <;>rw[e]
  ·exact L6.1
  ·exact L6.2
abbrev VY:=Nat × Nat × Nat × Nat × Nat
abbrev Zn:=Nat × Nat × Nat × Nat
def fl? (b:Bool) (x:Nat):Nat:=if b then IV x else x
theorem w32_fl? {b:Bool} {x:Nat} (h:Bj x):Bj (fl? b x):=by
 unfold fl?;split
 ·exact LM h
 ·exact h
def Xu (m:Zn):Prop:=Bj m.1∧Bj m.2.1∧Bj m.2.2.1∧Bj m.2.2.2
def CL (f:VY) (form:Int) (b:Bool) (m:Zn) (x:Nat):Nat × Zn :=
 if form=0 then
  let y:=fl? b (BW .f32 (BW .f32 (BD .f32 (BD .f32 (AT .f32 f.1 x) (AT .f32 f.2.1 m.1)) (AT .f32 f.2.2.1 m.2.1)) (AT .f32 f.2.2.2.1 m.2.2.1)) (AT .f32 f.2.2.2.2 m.2.2.2))
  (y,fl? b x,fl? b m.1,fl? b y,fl? b m.2.2.1)
 else if form=1 then
  let y:=fl? b (BD .f32 (AT .f32 f.1 x) m.1)
  (y,fl? b (BD .f32 (BW .f32 (AT .f32 f.2.1 x) (AT .f32 f.2.2.2.1 y)) m.2.1),fl? b (BW .f32 (AT .f32 f.2.2.1 x) (AT .f32 f.2.2.2.2 y)),fl? b 0,fl? b 0)
 else
  let w:=fl? b (BW .f32 (BW .f32 x (AT .f32 f.2.2.2.1 m.1)) (AT .f32 f.2.2.2.2 m.2.1))
  (fl? b (BD .f32 (BD .f32 (AT .f32 f.1 w) (AT .f32 f.2.1 m.1)) (AT .f32 f.2.2.1 m.2.1)),fl? b w,fl? b m.1,fl? b 0,fl? b 0)
theorem PS {f:VY} {form:Int} {b:Bool} {m:Zn} {x:Nat} (hm:Xu m) (hx:Bj x):Bj (CL f form b m x).1∧Xu (CL f form b m x).2:=by
 obtain ⟨m1,m2,m3,m4⟩:=hm
 unfold CL
 split
 ·exact ⟨w32_fl? (EU _ _),w32_fl? hx,w32_fl? m1,w32_fl? (w32_fl? (EU _ _)),w32_fl? m3⟩
 ·split
  ·exact ⟨w32_fl? (CO _ _),w32_fl? (CO _ _),w32_fl? (EU _ _),w32_fl? Bw,w32_fl? Bw⟩
  ·exact ⟨w32_fl? (CO _ _),w32_fl? (w32_fl? (EU _ _)),w32_fl? m1,w32_fl? Bw,w32_fl? Bw⟩
section
variable {σ α β:Type} {f:σ→α→β × σ} {P:σ→Prop} {Q:α→Prop} {S:β→Prop}
theorem Ri (hf:∀ s x,P s→Q x→S (f s x).1∧P (f s x).2):∀ (xs:List α) (s:σ),P s→(∀ x∈xs,Q x)→(∀ y∈(Ai f s xs).1,S y)∧P (Ai f s xs).2
 | [],s,hs,_=>⟨by simp[Ai],hs⟩
 | x::xs,s,hs,hx=>by
   obtain ⟨h1,h2⟩:=hf s x hs (hx x (by simp))
   obtain ⟨h3,h4⟩:=Ri hf xs _ h2 (fun y hy=>hx y (by simp[hy]))
   refine ⟨?_,h4⟩
   intro y hy
   simp only[Ai,mem_cons] at hy
   rcases hy with rfl | hy
   ·exact h1
   ·exact h3 y hy
end
section
variable {p zs:List (Int × Nat)} {z:Int × Nat}
end
def NT (w:List Nat) (x:Nat):List Nat:=w.drop 1++[x]
theorem Lu {w:List Nat} {x:Nat} (h:0<w.length):(NT w x).length=w.length:=by unfold NT;simp;omega
def CW (x:Nat):Bool:=decide (x % 2147483648<2139095040)
theorem Ut {x:Nat} (h:CW x=true):isNaN .f32 x=false:=by
 unfold CW at h;rw[PV];simp at h ⊢;omega
theorem Sf {x:Nat} (h:CW x=true):∃ s m e,FloatKind.f32.decode x = .number s m e:=by
 cases hd:FloatKind.f32.decode x with
 | number s m e=>exact ⟨s,m,e,rfl⟩
 | infinity s =>
   have h1:=(KU hd).1
   unfold CW at h
   have e1:FloatKind.f32.format.infRung=2139095040:=by decide
   have e2:Ea .f32 x=x % 2147483648:=rfl
   simp at h
   omega
 | nan s t =>
   have:=Ut h
   unfold isNaN at this
   rw[hd] at this;cases this
theorem V4 {x:Nat} (h:CW x=true):BW .f32 x x=0:=by
 obtain ⟨s,m,e,hd⟩:=Sf h
 have hd:FloatKind.f32.format.read x = .number s m e:=hd
 unfold BW Ieee.Format.sub
 rw[hd]
 simp only[Ieee.Datum.opposite,Ieee.Datum.sum]
 have e0:Ieee.signed s m (e - min e e).toNat+Ieee.signed (!s) m (e - min e e).toNat=0:=by
  unfold Ieee.signed
  cases s <;>simp <;>omega
 rw[e0]
 cases s <;>rfl
theorem OH (x:Nat):RQ .f32 (BW .f32 x x) 0=CW x:=by
 cases h:CW x
 ·
  have hN:isNaN .f32 (BW .f32 x x)=true:=by
   cases hd:FloatKind.f32.decode x with
   | number s m e =>
     have h1:=(EL hd).1
     have e1:FloatKind.f32.format.infRung=2139095040:=by decide
     have e2:Ea .f32 x=x % 2147483648:=rfl
     unfold CW at h
     simp at h
     omega
   | infinity s =>
     have hd:FloatKind.f32.format.read x = .infinity s:=hd
     unfold BW Ieee.Format.sub
     rw[hd]
     cases s <;>decide
   | nan s t =>
     have hd:FloatKind.f32.format.read x = .nan s t:=hd
     unfold BW Ieee.Format.sub
     rw[hd]
     simp only[Ieee.Datum.sum,Option.map_none]
     decide
  rw[Uh];unfold Ib;rw[hN];rfl
 ·rw[V4 h];decide
theorem YW {x:Nat} (h:isNaN .f32 x=false):x % 2147483648≤2139095040:=by rw[PV] at h;simp at h;exact h
theorem Kb {k:FloatKind} {x y:Nat} {a b B:Rat} (hx:Br k x a) (hy:Br k y b) (hB:C0 k B) (hf:B<p2 (F0 k)) (h1:a - b≤B) (h2 : -B≤a - b) :
  ∃ R,Br k (BW k x y) R∧KN k (a - b) R:=by
 obtain ⟨s,m,i,e1,rfl,-⟩:=hx
 obtain ⟨t,n,j,e2,rfl,-⟩:=hy
 have e1:k.format.read x = .number s m i:=e1
 have e2:k.format.read y = .number t n j:=e2
 generalize hb:min i j=base
 generalize ht:Ieee.signed s m (i - base).toNat+Ieee.signed (!t) n (j - base).toNat=total
 have hadd:BW k x y=k.encode (.number (if total=0 then s && !t else total<0) total.natAbs base):=by
  simp only[BW,Ieee.Format.sub,e1,e2,Ieee.Datum.opposite,Ieee.Datum.sum,Option.map_some,hb,ht]
  rfl
 have hneg:sg (!t) (mv n j) = -sg t (mv n j):=by cases t <;>simp[sg]
 have hval:sg (if total=0 then s && !t else decide (total<0)) (mv total.natAbs base)=sg s (mv m i) - sg t (mv n j):=by
  rw[Rat.sub_eq_add_neg,← hneg,LL,← ht,Rat.intCast_add,Rat.add_mul,DE,DE]
  congr 2 <;>congr 1 <;>omega
 rw[hadd,← hval]
 exact Fw k _ _ _ hB (LX (Aq _ _) (by rw[hval];exact h1) (by rw[hval];exact h2)) hf
theorem VM (k:FloatKind) (s:Bool) (m:Nat) (e:Int):k.encode (.number s m e)<2 * k.format.signWeight:=Kt k (by intro _ _ h;cases h)
theorem Qs (k:FloatKind) (x y:Nat):BD k x y<2 * k.format.signWeight:=by
 unfold BD Ieee.Format.add
 cases h:(k.format.read x).sum (k.format.read y) with
 | none=>cases k <;>decide
 | some d=>exact Kt k (fun s t e=>FB h s t e)
theorem ZB (k:FloatKind) (x y:Nat):AT k x y<2 * k.format.signWeight:=by
 unfold AT Ieee.Format.mul
 cases h:(k.format.read x).product (k.format.read y) with
 | none=>cases k <;>decide
 | some d=>exact Kt k (fun s t e=>FG h s t e)
theorem NE (k:FloatKind) (n:Int):k.nearest n<2 * k.format.signWeight:=VM k _ _ _
theorem GO {k:FloatKind} {x y:Nat} {a:Rat} (hx:x<2 * k.format.signWeight) (hy:y<2 * k.format.signWeight) (h1:Br k x a) (h2:Br k y a) (ha:a≠0):x=y:=by
 obtain ⟨s,m,i,e1,h3,-⟩:=h1
 obtain ⟨t,n,j,e2,h4,-⟩:=h2
 have p1:=Aq m i
 have p2:=Aq n j
 have hst:s=t:=by
  cases s <;>cases t <;>simp only[C5,A4] at h3 h4 <;>first | rfl | (exfalso;grind)
 subst hst
 refine SR hx hy e1 e2 ?_
 cases s <;>simp only[C5,A4] at h3 h4 <;>grind
theorem Fk (k:FloatKind) {B:Nat} (hB:B≤2 * k.format.binade):C0 k (B:Rat):=by
 refine ⟨B,0,hB,by cases k <;>decide,?_⟩
 unfold mv;rw[CM,Rat.mul_one]
theorem Hs (k:FloatKind) {B:Nat} (hB:B≤2 * k.format.binade):(B:Rat)<p2 (F0 k):=by
 have h1:(B:Rat)≤((2 * k.format.binade:Nat):Rat):=by exact_mod_cast hB
 have h2:((2 * k.format.binade:Nat):Rat)<p2 (F0 k):=by
  have:∃ j:Nat,2 * k.format.binade=2 ^ j∧(j:Int)<F0 k:=by
   cases k
   ·exact ⟨24,by decide,by decide⟩
   ·exact ⟨53,by decide,by decide⟩
  obtain ⟨j,e,h⟩:=this
  rw[e,← Jz]
  exact Ja h
 exact cM h1 h2
theorem UP {k:FloatKind} {n:Int} (hn:n.natAbs≤2 * k.format.binade):bM k (n:Rat):=(C7 hn).rep
theorem Px {n:Int}:(n:Rat)≤((n.natAbs:Nat):Rat) ∧ -((n.natAbs:Nat):Rat)≤(n:Rat):=by
 have h1:n≤((n.natAbs:Nat):Int):=by omega
 have h2 : -((n.natAbs:Nat):Int)≤n:=by omega
 have e:((n.natAbs:Nat):Rat)=(((n.natAbs:Nat):Int):Rat):=(Rat.intCast_natCast _).symm
 rw[e]
 refine ⟨Rat.intCast_le_intCast.2 h1,?_⟩
 rw[← Rat.intCast_neg]
 exact Rat.intCast_le_intCast.2 h2
theorem Hk (k:FloatKind):k.nearest 0=0:=by cases k <;>decide
theorem ZF {k:FloatKind} {a b:Int} (ha:a.natAbs≤2 * k.format.binade) (hb:b.natAbs≤2 * k.format.binade) (hab:(a+b).natAbs≤2 * k.format.binade):BD k (k.nearest a) (k.nearest b)=k.nearest (a+b):=by
 have va:=C7 (k:=k) ha
 have vb:=C7 (k:=k) hb
 by_cases h0:a+b=0
 ·rw[h0,Hk]
  obtain ⟨s,m,i,e1,h1,-⟩:=va
  obtain ⟨t,n,j,e2,h2,-⟩:=vb
  have p1:=Aq m i
  have p2' :=Aq n j
  have hbv:(b:Rat) = -(a:Rat):=by
   have:b = -a:=by omega
   rw[this,Rat.intCast_neg]
  have hst:(s&&t)=false:=by
   by_cases h:a=0
   ·subst h
    rw[Hk] at e1
    have:k.decode 0 = .number false 0 k.format.leastPlace:=by cases k <;>decide
    rw[this] at e1
    cases e1;rfl
   ·have hne:(a:Rat)≠0:=by exact_mod_cast h
    cases s <;>cases t <;>simp only[C5,A4] at h1 h2 <;>first | rfl | (exfalso;grind)
  have e1:k.format.read (k.nearest a) = .number s m i:=e1
  have e2:k.format.read (k.nearest b) = .number t n j:=e2
  generalize hbase:min i j=base
  have ht:Ieee.signed s m (i - base).toNat+Ieee.signed t n (j - base).toNat=0:=by
   have h3:((Ieee.signed s m (i - base).toNat+Ieee.signed t n (j - base).toNat:Int):Rat) * p2 base=0:=by
    rw[Rat.intCast_add,Rat.add_mul,DE,DE]
    rw[show base+((i - base).toNat:Int)=i by omega,show base+((j - base).toNat:Int)=j by omega,← h1,← h2,hbv]
    grind
   have h4:=Je base
   have h5:((Ieee.signed s m (i - base).toNat+Ieee.signed t n (j - base).toNat:Int):Rat)=0:=by
    rcases Rat.mul_eq_zero.1 h3 with h | h
    ·exact h
    ·rw[h] at h4;exact absurd h4 (by decide)
   exact_mod_cast h5
  simp only[BD,Ieee.Format.add,e1,e2,Ieee.Datum.sum,Option.map_some,hbase,ht,hst]
  rfl
 ·have hv:(a:Rat)+(b:Rat)=((a+b:Int):Rat):=(Rat.intCast_add _ _).symm
  obtain ⟨h1,h2⟩:=Px (n:=a+b)
  obtain ⟨R,h3,h4⟩:=Kg va vb (Fk k hab) (Hs k hab) (by rw[hv];exact h1) (by rw[hv];exact h2)
  rw[hv] at h4
  have h5:=h3.near_eq h4 (UP hab)
  exact GO (Qs _ _ _) (NE _ _) h5 (C7 hab) (by exact_mod_cast h0)
def Bd (k:FloatKind) (x:Nat) (B:Nat):Prop:=∃ v:Rat,Br k x v ∧ -(B:Rat)≤v∧v≤(B:Rat)
theorem KN.bd {k:FloatKind} {v R:Rat} {B:Nat} (h:KN k v R) (hB:B≤2 * k.format.binade) (h1:v≤(B:Rat)) (h2 : -(B:Rat)≤v) : -(B:Rat)≤R∧R≤(B:Rat) :=
 ⟨(h _ (Fk k hB).neg).2 h2,(h _ (Fk k hB).rep).1 h1⟩
theorem Bd.add {k:FloatKind} {x y A B:Nat} (hx:Bd k x A) (hy:Bd k y B) (h:A+B≤2 * k.format.binade):Bd k (BD k x y) (A+B):=by
 obtain ⟨v,h1,h2,h3⟩:=hx
 obtain ⟨w,h4,h5,h6⟩:=hy
 have e:=Rat.natCast_add A B
 have g1:v+w≤((A+B:Nat):Rat):=by rw[e];grind
 have g2 : -((A+B:Nat):Rat)≤v+w:=by rw[e];grind
 obtain ⟨R,q1,q2⟩:=Kg h1 h4 (Fk k h) (Hs k h) g1 g2
 exact ⟨R,q1,q2.bd h g1 g2⟩
theorem Bd.sub {k:FloatKind} {x y A B:Nat} (hx:Bd k x A) (hy:Bd k y B) (h:A+B≤2 * k.format.binade):Bd k (BW k x y) (A+B):=by
 obtain ⟨v,h1,h2,h3⟩:=hx
 obtain ⟨w,h4,h5,h6⟩:=hy
 have e:=Rat.natCast_add A B
 have g1:v - w≤((A+B:Nat):Rat):=by rw[e];grind
 have g2 : -((A+B:Nat):Rat)≤v - w:=by rw[e];grind
 obtain ⟨R,q1,q2⟩:=Kb h1 h4 (Fk k h) (Hs k h) g1 g2
 exact ⟨R,q1,q2.bd h g1 g2⟩
theorem TJ {v w A B:Rat} (hA:0≤A) (hB:0≤B) (h1 : -A≤v) (h2:v≤A) (h3 : -B≤w) (h4:w≤B) : -(A * B)≤v * w∧v * w≤A * B:=by
 have key:∀ v w:Rat,0≤v→0≤w→v≤A→w≤B→0≤v * w∧v * w≤A * B:=fun v w a b c d =>
  ⟨Rat.mul_nonneg a b,Rat.le_trans (Rat.mul_le_mul_of_nonneg_right c b) (Rat.mul_le_mul_of_nonneg_left d hA)⟩
 rcases (Rat.le_total:(0:Rat)≤v∨v≤0) with hv | hv <;>rcases (Rat.le_total:(0:Rat)≤w∨w≤0) with hw | hw
 ·have:=key v w hv hw h2 h4;grind
 ·have:=key v (-w) hv (by grind) h2 (by grind);grind
 ·have:=key (-v) w (by grind) hw (by grind) h4;grind
 ·have:=key (-v) (-w) (by grind) (by grind) (by grind) (by grind);grind
theorem Bd.mul {k:FloatKind} {x y A B:Nat} (hx:Bd k x A) (hy:Bd k y B) (h:A * B≤2 * k.format.binade):Bd k (AT k x y) (A * B):=by
 obtain ⟨v,h1,h2,h3⟩:=hx
 obtain ⟨w,h4,h5,h6⟩:=hy
 have e:=Rat.natCast_mul A B
 have hA:(0:Rat)≤(A:Rat):=by exact_mod_cast Nat.zero_le A
 have hB:(0:Rat)≤(B:Rat):=by exact_mod_cast Nat.zero_le B
 obtain ⟨g2,g1⟩:=TJ hA hB h2 h3 h5 h6
 rw[← e] at g1 g2
 obtain ⟨R,q1,q2⟩:=Fb h1 h4 (Fk k h) (Hs k h) g1 g2
 exact ⟨R,q1,q2.bd h g1 g2⟩
theorem Bd.div {k:FloatKind} {x y A:Nat} {w:Rat} (hx:Bd k x A) (hy:Br k y w) (hw:1≤w) (h:A≤2 * k.format.binade):Bd k (fdiv k x y) A:=by
 obtain ⟨v,h1,h2,h3⟩:=hx
 have hA:(0:Rat)≤(A:Rat):=by exact_mod_cast Nat.zero_le A
 have hw0:w≠0:=by grind
 have hpos:0<w:=by grind
 have hq:v / w * w=v:=Rat.div_mul_cancel hw0
 have hAw:(A:Rat) * 1≤(A:Rat) * w:=Rat.mul_le_mul_of_nonneg_left hw hA
 have g1:v / w≤(A:Rat):=by
  refine Rat.not_lt.1 fun h => ?_
  have:=(Rat.mul_lt_mul_right hpos).2 h
  grind
 have g2 : -(A:Rat)≤v / w:=by
  refine Rat.not_lt.1 fun h => ?_
  have:=(Rat.mul_lt_mul_right hpos).2 h
  grind
 obtain ⟨R,q1,q2⟩:=KI h1 hy hw0 (Fk k h) (Hs k h) g1 g2
 exact ⟨R,q1,q2.bd h g1 g2⟩
theorem Bd.mono {k:FloatKind} {x A B:Nat} (h:Bd k x A) (hAB:A≤B):Bd k x B:=by
 obtain ⟨v,h1,h2,h3⟩:=h
 have:(A:Rat)≤(B:Rat):=by exact_mod_cast hAB
 exact ⟨v,h1,by grind,by grind⟩
theorem Bd.int {k:FloatKind} {n:Int} {B:Nat} (h:n.natAbs≤B) (hB:B≤2 * k.format.binade):Bd k (k.nearest n) B:=by
 obtain ⟨h1,h2⟩:=Px (n:=n)
 have:((n.natAbs:Nat):Rat)≤(B:Rat):=by exact_mod_cast h
 exact ⟨_,C7 (by omega),by grind,by grind⟩
theorem Bd.toInt {x B:Nat} (h:Bd .f64 x B) (hB:B≤4611686018427387904):∃ n:Int,Da .f64 x .i64=some n∧n.natAbs≤B:=by
 obtain ⟨v,⟨s,m,i,e1,rfl,-⟩,h2,h3⟩:=h
 have hv:=Aq m i
 have hmv:mv m i≤(B:Rat):=by cases s <;>simp only[C5,A4] at h2 h3 <;>grind
 have hc:(m <<< i.toNat) / 2 ^ (-i).toNat≤B:=by
  refine Nat.div_le_of_le_mul ?_
  rw[Nat.shiftLeft_eq]
  have h4:mv (m * 2 ^ i.toNat) (-((-i).toNat:Int))≤mv (2 ^ (-i).toNat * B) (-((-i).toNat:Int)):=by
   rw[Nat.mul_comm (2 ^ (-i).toNat),BT,BT]
   rw[show -((-i).toNat:Int)+(i.toNat:Int)=i by omega,show -((-i).toNat:Int)+((-i).toNat:Int)=0 by omega]
   have e0:mv B 0=(B:Rat):=by unfold mv;rw[CM,Rat.mul_one]
   rw[e0];exact hmv
  exact Cg.1 h4
 refine ⟨Ieee.signed s ((m <<< i.toNat) / 2 ^ (-i).toNat) 0,?_,?_⟩
 ·unfold Da
  rw[e1]
  simp only[Ieee.Datum.toInt,Ieee.Datum.integral,KW]
  have h5:IntKind.i64.min≤Ieee.signed s ((m <<< i.toNat) / 2 ^ (-i).toNat) 0∧Ieee.signed s ((m <<< i.toNat) / 2 ^ (-i).toNat) 0≤IntKind.i64.max:=by
   have e1:IntKind.i64.min = -9223372036854775808:=by decide
   have e2:IntKind.i64.max=9223372036854775807:=by decide
   rw[e1,e2]
   generalize (m <<< i.toNat) / 2 ^ (-i).toNat=c at *
   unfold Ieee.signed
   simp only[Nat.shiftLeft_zero]
   split <;>omega
  rw[if_pos h5]
 ·generalize (m <<< i.toNat) / 2 ^ (-i).toNat=c at *
  unfold Ieee.signed
  simp only[Nat.shiftLeft_zero]
  split <;>omega
theorem Bd.even {x B:Nat} (h:Bd .f64 x B) (hB:B≤2 * FloatKind.f64.format.binade):Bd .f64 (BV .even x) B:=by
 obtain ⟨v,⟨s,m,i,e1,rfl,-⟩,h2,h3⟩:=h
 have hv:=Aq m i
 have hmv:mv m i≤(B:Rat):=by cases s <;>simp only[C5,A4] at h2 h3 <;>grind
 have hn:m <<< i.toNat≤B * 2 ^ (-i).toNat:=by
  rw[Nat.shiftLeft_eq]
  have h4:mv (m * 2 ^ i.toNat) (-((-i).toNat:Int))≤mv (B * 2 ^ (-i).toNat) (-((-i).toNat:Int)):=by
   rw[BT,BT]
   rw[show -((-i).toNat:Int)+(i.toNat:Int)=i by omega,show -((-i).toNat:Int)+((-i).toNat:Int)=0 by omega]
   have e0:mv B 0=(B:Rat):=by unfold mv;rw[CM,Rat.mul_one]
   rw[e0];exact hmv
  exact Cg.1 h4
 have hc:=(Mi s (m <<< i.toNat) (-i).toNat B).1 hn
 have e2:BV .even x=FloatKind.f64.encode (.number s (Ieee.Toward.cut .even s (m <<< i.toNat) (-i).toNat) 0):=by
  unfold BV;rw[e1];rfl
 rw[e2]
 generalize Ieee.Toward.cut .even s (m <<< i.toNat) (-i).toNat=c at *
 have hcb:c≤2 * FloatKind.f64.format.binade:=by omega
 have e3:mv c 0=(c:Rat):=by unfold mv;rw[CM,Rat.mul_one]
 have e4:(c:Rat)≤(B:Rat):=by exact_mod_cast hc
 have e5:(0:Rat)≤(c:Rat):=by exact_mod_cast Nat.zero_le c
 obtain ⟨m',e',q1,q2⟩:=H7 .f64 s (m:=c) (e:=0) (by rw[e3];exact Fk .f64 hcb) (by rw[e3];exact Hs .f64 hcb)
 refine ⟨_,BI q1,?_,?_⟩ <;>rw[q2,e3] <;>cases s <;>simp only[C5,A4] <;>grind
theorem QD {x:Nat} (h:CW x=true):Br .f32 x (fval .f32 x):=by
 obtain ⟨s,m,e,hd⟩:=Sf h
 have:=BI hd
 unfold fval;rw[hd];exact this
theorem Br.fval {k:FloatKind} {x:Nat} {v:Rat} (h:Br k x v):Go.Desk.fval k x=v:=by
 obtain ⟨s,m,e,h1,h2,-⟩:=h
 unfold Go.Desk.fval;rw[h1];exact h2.symm
theorem Br.fin {x:Nat} {v:Rat} (h:Br .f32 x v):CW x=true:=by
 obtain ⟨s,m,e,h1,-⟩:=h
 have:=(EL h1).1
 unfold CW
 exact decide_eq_true this
theorem WB:Br .f32 2147483648 0:=by
 have:=BI (k:=.f32) (x:=2147483648) (s:=true) (m:=0) (e:=-149) (by decide)
 rwa [CZ,C5,Rat.neg_zero] at this
theorem WU {x:Nat} {v:Rat} (hx:Bj x) (h:Br .f32 x v):(0≤v→Br .f32 (B6 x) v)∧(v≤0→Br .f32 (B6 x) (-v)):=by
 have hn:=h.num
 obtain ⟨s,m,e,h1,rfl,h2,h3⟩:=h
 have hs:B6 x=x % 2147483648:=by unfold B6;rw[hn];rfl
 have h4:FloatKind.f32.decode (B6 x) = .number false m e:=by rw[hs];exact Gd.1 s m e h1
 have h5:=BI h4
 have hnn:=Aq m e
 rw[A4] at h5
 constructor
 ·intro h
  cases s <;>simp only[C5,A4] at h ⊢
  ·exact h5
  ·have:mv m e=0:=by grind
   rw[this] at h5 ⊢;simpa using h5
 ·intro h
  cases s <;>simp only[C5,A4] at h ⊢
  ·have:mv m e=0:=by grind
   rw[this] at h5 ⊢;simpa using h5
  ·rw[Rat.neg_neg];exact h5
def Ix (x:Nat):Bool:=CW x&&(x % 2147483648==0||(decide (1031798784≤x % 2147483648)&&decide (x % 2147483648≤1091829760)))
theorem U3:∀ m:Nat,m<129→(Ix (fdiv .f32 (FloatKind.f32.nearest ((m:Int) - 64)) 1088421888)&&Ix (fdiv .f32 (FloatKind.f32.nearest ((m:Int) - 64)) 1098907648))=true:=by decide +kernel
theorem K0.ok {x:Nat} (h:K0 x):Ix x=true:=by
 obtain ⟨m,hm,h⟩:=h
 obtain ⟨k,hk⟩:=Int.eq_ofNat_of_zero_le (show 0≤m+64 by omega)
 have hm':m=(k:Int) - 64:=by omega
 have:=U3 k (by omega)
 rw[← hm',zB] at this
 rcases h with rfl | rfl
 ·exact this.1
 ·exact this.2
theorem K0.fin {x:Nat} (h:K0 x):CW x=true:=by
 have:=h.ok
 unfold Ix at this
 rw[zB] at this
 exact this.1
theorem Vd (x:Nat) (s:Bool) (m:Nat) (e:Int) (h:FloatKind.f32.decode x = .number s m e):Br .f32 x (sg s (mv m e)):=BI h
theorem K0.val {x:Nat} (h:K0 x):∃ v,Br .f32 (B6 x) v∧(v=0∨1 / 16≤v)∧0≤v∧v≤10∧(fval .f32 x=v∨fval .f32 x = -v):=by
 have hf:=h.fin
 have hok:=h.ok
 have hw:=h.w32
 have hv:=QD hf
 obtain ⟨s1,s2⟩:=WU hw hv
 have hn:=Ut hf
 have hs:B6 x=x % 2147483648:=by unfold B6;rw[hn];rfl
 have hex:∃ v,Br .f32 (B6 x) v∧0≤v∧(fval .f32 x=v∨fval .f32 x = -v):=by
  rcases (Rat.le_total:(0:Rat)≤fval .f32 x∨fval .f32 x≤0) with h1 | h1
  ·exact ⟨_,s1 h1,h1,.inl rfl⟩
  ·exact ⟨_,s2 h1,by grind,.inr (by grind)⟩
 obtain ⟨v,q1,q2,q3⟩:=hex
 refine ⟨v,q1,?_,q2,?_,q3⟩
 ·unfold Ix at hok
  simp only[zB,Bool.or_eq_true,beq_iff_eq,decide_eq_true_eq] at hok
  rcases hok.2 with h0 | ⟨h1,-⟩
  ·rw[← hs] at h0
   rw[h0] at q1
   exact .inl (q1.inj (KS .f32))
  ·refine .inr ?_
   have hc:Br .f32 1031798784 (1 / 16):=by
    have:=Vd 1031798784 false (2 ^ 23) (-27) (by decide)
    rw[A4,B5] at this
    have e:p2 (-27+((23:Nat):Int)) * 16=1:=by
     have h4:=Gf (-27+((23:Nat):Int)) 4
     have h16:p2 4=16:=by have:=Jz 4;rw[show ((4:Nat):Int)=4 from rfl] at this;rw[this];rfl
     rw[h16] at h4;rw[← h4,show (-27:Int)+((23:Nat):Int)+4=0 by decide,CM]
    have e2:p2 (-27+((23:Nat):Int))=1 / 16:=by grind
    rw[e2] at this;exact this
   have:=(KP q1 hc).1 (by
    rw[Y3];unfold Ib
    rw[q1.num,hc.num,Lv (by omega),Lv (by omega),if_pos (by omega),if_pos (by omega)]
    simp;omega)
   exact this
 ·unfold Ix at hok
  simp only[zB,Bool.or_eq_true,beq_iff_eq,decide_eq_true_eq] at hok
  have hle:x % 2147483648≤1091829760:=by rcases hok.2 with h0 | ⟨-,h1⟩ <;>omega
  have hc:Br .f32 1092616192 10:=by
   have:=C7 (k:=.f32) (n:=10) (by decide)
   rwa [show FloatKind.f32.nearest 10=1092616192 by decide] at this
  refine (Qi q1 hc).1 ?_
  rw[ZK];unfold Ib
  rw[q1.num,hc.num,Lv (by omega),Lv (by omega),if_pos (by omega),if_pos (by omega)]
  simp;omega
def J1 (at_ re:Nat) (l x:Nat):Nat:=IV (BD .f32 l (AT .f32 (if H2 .f32 (B6 x) l then at_ else re) (BW .f32 (B6 x) l)))
theorem VQ (a r l x:Nat):Bj (J1 a r l x):=LM (CO _ _)
def Ui (l t r:Nat):Nat:=if H2 .f32 l t then fdiv .f32 (BD .f32 t (fdiv .f32 (BW .f32 l t) r)) l else 1065353216
def CE (a r t q:Nat) (l:Nat) (x:Nat × Nat):Nat × Nat:=(AT .f32 x.1 (Ui (J1 a r l x.2) t q),J1 a r l x.2)
theorem Rb:2 * FloatKind.f32.format.binade=16777216:=by decide
def XL (w:List Nat):Nat:=w.getD 0 0
def GF (w:List Nat):Prop:=∀ y∈w,Bj y
theorem Vh {w:List Nat} {x:Nat} (h:GF w) (hx:Bj x):GF (NT w x):=by
 intro y hy
 simp only[NT,mem_append,mem_singleton] at hy
 rcases hy with hy | rfl
 ·exact h y (mem_of_mem_drop hy)
 ·exact hx
theorem Oo {x:Nat} (hx:x<4294967296) (h:Br .f32 x 0):x=0∨x=2147483648:=by
 obtain ⟨s,m,e,h1,h2,-⟩:=h
 have h3:mv m e=0:=by cases s <;>simp only[C5,A4] at h2 <;>grind
 have h4:=(ID h1).2 h3
 have h5:x % 2147483648=0:=h4
 omega
theorem ZW {a b:Int} (ha:a.natAbs≤16777216) (hb:b.natAbs≤16777216) (hab:(a * b).natAbs≤16777216) (h0:a * b≠0):AT .f32 (FloatKind.f32.nearest a) (FloatKind.f32.nearest b)=FloatKind.f32.nearest (a * b):=by
 have b32:2 * FloatKind.f32.format.binade=16777216:=Rb
 have va:=C7 (k:=.f32) (n:=a) (by rw[b32];exact ha)
 have vb:=C7 (k:=.f32) (n:=b) (by rw[b32];exact hb)
 have hab':(a * b).natAbs≤2 * FloatKind.f32.format.binade:=by rw[b32];exact hab
 have hv:(a:Rat) * (b:Rat)=((a * b:Int):Rat):=(Rat.intCast_mul _ _).symm
 obtain ⟨h1,h2⟩:=Px (n:=a * b)
 obtain ⟨R,h3,h4⟩:=Fb va vb (Fk .f32 hab') (Hs .f32 hab') (by rw[hv];exact h1) (by rw[hv];exact h2)
 rw[hv] at h4
 have h5:=h3.near_eq h4 (UP hab')
 exact GO (ZB _ _ _) (NE _ _) h5 (C7 hab') (by exact_mod_cast h0)
theorem Ra:FloatKind.f32.nearest 1=1065353216:=by decide
theorem one_mul {a:Int} (h : -1000000≤a∧a≤1000000):AT .f32 1065353216 (FloatKind.f32.nearest a)=FloatKind.f32.nearest a:=by
 by_cases h0:a=0
 ·subst h0;decide
 ·have:=ZW (a:=1) (b:=a) (by decide) (by omega) (by omega) (by omega)
  rw[Ra,Int.one_mul] at this
  exact this
theorem Pj {a:Int} (h : -1000000≤a∧a≤1000000):a.natAbs≤2 * FloatKind.f32.format.binade:=by
 rw[show 2 * FloatKind.f32.format.binade=16777216 from Rb];omega
theorem add_zero {a:Int} (h : -1000000≤a∧a≤1000000):BD .f32 (FloatKind.f32.nearest a) 0=FloatKind.f32.nearest a:=by
 have:=ZF (k:=.f32) (a:=a) (b:=0) (Pj h) (by decide) (by simpa using Pj h)
 rw[Hk] at this
 simpa using this
end Go.Desk
namespace Go.Desk
open Go
end Go.Desk
end
section
namespace Go.Proofs.YtokonabdnlckdaaGreat.DA
open Go Go.Desk
def AE (f:Func):Code:=match f.body with
 | some c=>c
 | none => .skip
def L7:List (Nat × TD):=[
 (84,⟨false,1,8,[.leaf],[.flt .f64 0],.flt .f64⟩),
 (95,⟨false,1,8,[.leaf],[.int .u64 0],.int .u64⟩)]
noncomputable def bv:Code:=AE Tryz.f169
noncomputable def E0:List (Nat × FD):=[
 (168,.ext (BR)),
 (169,.code bv [.val] [] [(2,none)] [(0,[0]),(1,[0])]),
 (174,.ext (DH))]
noncomputable def E:Av:=⟨fun t=>MD L7 t,HA E0⟩
noncomputable def D6 (n:Nat):FD:=match HA E0 n with
 | some d=>d
 | none => .ext fun _=>none
noncomputable def FF (n:Nat):List (Nat × List Nat):=match HA E0 n with
 | some d=>d.keep
 | none=>[]
theorem tysOk:Cx Tryz.prog E:=Mj (l:=L7) (fun _=>rfl) (by kernel_rfl)
theorem SX:Cb Tryz.prog E 168 (.ext (BR)):=Ee Tryz.func168 (by kernel_rfl) (by kernel_rfl) (by kernel_rfl) (by kernel_rfl)
theorem Xy:Cb Tryz.prog E 169 (D6 169):=Js (c:=bv) (modes:=(D6 169).ms) (outs:=(D6 169).os) (results:=(D6 169).rs) (keep:=(D6 169).keep) Tryz.func169 (by kernel_rfl) (by kernel_rfl) (by kernel_rfl)
theorem RX:Cb Tryz.prog E 174 (.ext (DH)):=Hj Tryz.func174 (by kernel_rfl) (by kernel_rfl) (by kernel_rfl) (by kernel_rfl)
theorem Nr:Jg Tryz.prog E E0:=.cons SX (.cons Xy (.cons RX (.nil)))
theorem fnOk:∀ f fd,E.fn f=some fd→Cb Tryz.prog E f fd:=OD (l:=E0) (fun _=>rfl) Nr
end Go.Proofs.YtokonabdnlckdaaGreat.DA
section
namespace Go.Proofs.YtokonabdnlckdaaGreat.DA
open Go Go.Desk
set_option linter.unusedVariables false
noncomputable def x168.w:A7 E:=Ao.w 168 (by kernel_rfl)
noncomputable def x174.w:A7 E:=BM.w 174 (by kernel_rfl)
def f169:Nat→Nat→Option (Nat)
 | 0,_=>none
 | n+1,x1 =>
   bd (BM n x1) fun r2 =>
   let i3:Int:=r2
   bd (Ao n (intBits BinOp.andNot IntKind.u64 i3 (9223372036854775808:Int))) fun r4 =>
   let x5:Nat:=r4
   some x5
def BH:B4 (Nat) where
 pk:=fun v=>[.flt v]
 up:=fun ls=>match ls with
  | [.flt a0]=>some a0
  | _=>none
 ok:=by
  intro ls v h
  split at h
  ·cases h;rfl
  ·cases h
def f169.P:List Aa:=[⟨.val,⟨false,[.leaf],[.flt .f64 0]⟩⟩]
def f169.A:AZ (Nat):=.one ⟨[⟨false,[.leaf],[.flt .f64 0]⟩],[none]⟩ BH
def f169.F (n:Nat) (v:Nat):=f169 n v
noncomputable def f169.O (n:Nat):BF:=AL (E:=E) [x168.w,x174.w] [] n
theorem f169.ok:∀ n v x,f169.F n v=some x→Ab E n 169 (Gg f169.P (BH.pk v))=some (f169.A.enc x) :=
 QB (modes:=(D6 169).ms) (outs:=(D6 169).os) (results:=(D6 169).rs) f169.O (c:=bv) (keep:=FF 169) (by kernel_rfl) (fun n=>KO _ _ n) (fun n=>MW (bs:=[]) (by kernel_rfl) .nil) (fun _=>rfl) (fun _ _=>by kernel_rfl)
noncomputable def f169.w:A7 E:=BL 169 f169.P BH f169.A f169.F f169.ok
end Go.Proofs.YtokonabdnlckdaaGreat.DA
end
namespace Go.Proofs.YtokonabdnlckdaaGreat.DA
open Go Go.Desk
theorem absOk:G5 Tryz.prog 169 Rk:=R3 Tryz.checked.mixed tysOk fnOk
 (fun x hN hx=>⟨3,f169.ok 3 x _ (Vz 1 hN)⟩)
 ⟨5,by kernel_rfl⟩
end Go.Proofs.YtokonabdnlckdaaGreat.DA
end
section
namespace Go.Proofs.YtokonabdnlckdaaGreat.DC
open Go Go.Desk
def AE (f:Func):Code:=match f.body with
 | some c=>c
 | none => .skip
def L7:List (Nat × TD):=[
 (84,⟨false,1,8,[.leaf],[.flt .f64 0],.flt .f64⟩),
 (95,⟨false,1,8,[.leaf],[.int .u64 0],.int .u64⟩)]
noncomputable def Z0:Code:=AE Tryz.f163
noncomputable def E0:List (Nat × FD):=[
 (163,.code Z0 [.val,.val] [] [(4,none)] [(0,[0,1]),(1,[0,1])]),
 (168,.ext (BR)),
 (174,.ext (DH))]
noncomputable def E:Av:=⟨fun t=>MD L7 t,HA E0⟩
noncomputable def D6 (n:Nat):FD:=match HA E0 n with
 | some d=>d
 | none => .ext fun _=>none
noncomputable def FF (n:Nat):List (Nat × List Nat):=match HA E0 n with
 | some d=>d.keep
 | none=>[]
theorem tysOk:Cx Tryz.prog E:=Mj (l:=L7) (fun _=>rfl) (by kernel_rfl)
theorem W6:Cb Tryz.prog E 163 (D6 163):=Js (c:=Z0) (modes:=(D6 163).ms) (outs:=(D6 163).os) (results:=(D6 163).rs) (keep:=(D6 163).keep) Tryz.func163 (by kernel_rfl) (by kernel_rfl) (by kernel_rfl)
theorem SX:Cb Tryz.prog E 168 (.ext (BR)):=Ee Tryz.func168 (by kernel_rfl) (by kernel_rfl) (by kernel_rfl) (by kernel_rfl)
theorem RX:Cb Tryz.prog E 174 (.ext (DH)):=Hj Tryz.func174 (by kernel_rfl) (by kernel_rfl) (by kernel_rfl) (by kernel_rfl)
theorem Nr:Jg Tryz.prog E E0:=.cons W6 (.cons SX (.cons RX (.nil)))
theorem fnOk:∀ f fd,E.fn f=some fd→Cb Tryz.prog E f fd:=OD (l:=E0) (fun _=>rfl) Nr
end Go.Proofs.YtokonabdnlckdaaGreat.DC
section
namespace Go.Proofs.YtokonabdnlckdaaGreat.DC
open Go Go.Desk
set_option linter.unusedVariables false
noncomputable def x168.w:A7 E:=Ao.w 168 (by kernel_rfl)
noncomputable def x174.w:A7 E:=BM.w 174 (by kernel_rfl)
def f163:Nat→Nat→Nat→Option (Nat)
 | 0,_,_=>none
 | n+1,x1,x2 =>
   bd (BM n x1) fun r3 =>
   let i4:Int:=r3
   bd (BM n x2) fun r5 =>
   let i6:Int:=r5
   bd (Ao n (intBits BinOp.or IntKind.u64 (intBits BinOp.andNot IntKind.u64 i4 (9223372036854775808:Int)) (intBits BinOp.and IntKind.u64 i6 (9223372036854775808:Int)))) fun r7 =>
   let x8:Nat:=r7
   some x8
def KG:B4 (Nat × Nat) where
 pk:=fun v=>[.flt v.1,.flt v.2]
 up:=fun ls=>match ls with
  | [.flt a0,.flt a1]=>some (a0,a1)
  | _=>none
 ok:=by
  intro ls v h
  split at h
  ·cases h;rfl
  ·cases h
def BH:B4 (Nat) where
 pk:=fun v=>[.flt v]
 up:=fun ls=>match ls with
  | [.flt a0]=>some a0
  | _=>none
 ok:=by
  intro ls v h
  split at h
  ·cases h;rfl
  ·cases h
def f163.P:List Aa:=[⟨.val,⟨false,[.leaf],[.flt .f64 0]⟩⟩,⟨.val,⟨false,[.leaf],[.flt .f64 0]⟩⟩]
def f163.A:AZ (Nat):=.one ⟨[⟨false,[.leaf],[.flt .f64 0]⟩],[none,none]⟩ BH
def f163.F (n:Nat) (v:Nat × Nat):=f163 n v.1 v.2
noncomputable def f163.O (n:Nat):BF:=AL (E:=E) [x168.w,x174.w] [] n
theorem f163.ok:∀ n v x,f163.F n v=some x→Ab E n 163 (Gg f163.P (KG.pk v))=some (f163.A.enc x) :=
 QB (modes:=(D6 163).ms) (outs:=(D6 163).os) (results:=(D6 163).rs) f163.O (c:=Z0) (keep:=FF 163) (by kernel_rfl) (fun n=>KO _ _ n) (fun n=>MW (bs:=[]) (by kernel_rfl) .nil) (fun _=>rfl) (fun _ _=>by kernel_rfl)
noncomputable def f163.w:A7 E:=BL 163 f163.P KG f163.A f163.F f163.ok
end Go.Proofs.YtokonabdnlckdaaGreat.DC
end
namespace Go.Proofs.YtokonabdnlckdaaGreat.DC
open Go Go.Desk
theorem signOk:G5 Tryz.prog 163 D1:=LW Tryz.checked.mixed tysOk fnOk
 (fun x s hx hs hx' hs'=>⟨3,f163.ok 3 (x,s) _ (Nk 1 hx hs hx' hs')⟩)
end Go.Proofs.YtokonabdnlckdaaGreat.DC
end
section
namespace Go.Proofs.YtokonabdnlckdaaGreat.DS
open Go Go.Desk Go.Shelf Go.RowKit Go.Lib Go.Sort
set_option linter.unusedVariables false
theorem S1 {P:Program} (w:World) (tS tR e:TypeId) (i:TypeInfo) (ht:P.underlying tS=some (.slice e)) (hi:P.info? e=some i) (vb voff la ca b off lb cb:Nat) (hne:vb≠b)
  {row vrow:Array Value} {ve be:TypeId} {fr vfr:Nat × Nat} (hb:w.heap[b]?=some (.cells row be fr)) (hvb:w.heap[vb]?=some (.cells vrow ve vfr)) (hr:0<row.size) (hv:voff≤vrow.size) (hf:∀ j,voff≤j→¬ (vfr.1≤j∧j<vfr.2)) :
  (Extern.SlicesOverlaps.overlaps #[tS,tS] #[tR] #[.slice (some ⟨vb,voff,none⟩) la ca,.slice (some ⟨b,off,none⟩) lb cb]).run P w = .ok (.bool false) w :=
 run_overlaps_apart w tS tR e ht i.size (fun w=>by simp[sizeOf,typeInfo,hi]) ⟨vb,voff,none⟩ ⟨b,off,none⟩ la ca lb cb hne ve be vrow.size row.size (SZ hvb) (SZ hb) (by omega)
  (by rw[LV hvb];have:=hf voff (Nat.le_refl _);simp only[Bool.and_eq_false_iff,decide_eq_false_iff_not];omega)
  (by rw[LV hvb];have:=hf vrow.size hv;simp only[Bool.and_eq_false_iff,decide_eq_false_iff_not];omega)
structure QK (P:Program) (f O S E I W:Nat) (i0:TypeInfo) (z:Value):Prop where
 enter:∀ xs w,(callFunc f xs).run P w = .ok (.enter f xs) w
 ht:P.underlying S=some (.slice E)
 hI:P.underlying I=some (.int .i64)
 hi:P.info? E=some i0
 hz:i0.zero=some z
 hsz:i0.size=W
 hb:i0.bytes≤1024
 hzc:z.cells.size=W
 over:∀ x w,(callFunc O x).run P w=((Extern.SlicesOverlaps.overlaps #[S,S] #[I] x).run P w).andThen fun v w' => .ok (.value v) w'
 shift:∀ (w W1 W2:World) (b off n cap i vb voff m vc:Nat) (hm:0<m) (hin:i<n) (hroom:n+m≤cap) (hn63:n+m≤9223372036854775807)
  (hov:∀ lb cb,(callFunc O #[.slice (some ⟨vb,voff,none⟩) m vc,.slice (some ⟨b,off+(i+m) * W,none⟩) lb cb]).run P w = .ok (.value (.bool false)) w)
  (hcp1:∀ ty dc sc,(Builtin.copy_ #[S,S] ty #[.slice (some ⟨b,off+(i+m) * W,none⟩) (n+m - (i+m)) dc,.slice (some ⟨b,off+i * W,none⟩) (n+m - i) sc]).run P w.drew = .ok (goInt (n - i:Nat)) W1)
  (hcp2:∀ ty dc,(Builtin.copy_ #[S,S] ty #[.slice (some ⟨b,off+i * W,none⟩) (n+m - i) dc,.slice (some ⟨vb,voff,none⟩) m vc]).run P W1 = .ok (goInt m) W2),
  Calls P f #[.slice (some ⟨b,off,none⟩) n cap,.int .i64 i,.slice (some ⟨vb,voff,none⟩) m vc] w fun e w'=>e = .returned (.slice (some ⟨b,off,none⟩) (n+m) cap)∧w'=W2
 atEnd:∀ (w W1:World) (x:Value) (b off n cap vb voff m vc:Nat) (hm:0<m)
  (hrun:∀ ty,(Builtin.append_ #[S,S] ty #[.slice (some ⟨b,off,none⟩) n cap,.slice (some ⟨vb,voff,none⟩) m vc]).run P w = .ok x W1),
  Calls P f #[.slice (some ⟨b,off,none⟩) n cap,.int .i64 n,.slice (some ⟨vb,voff,none⟩) m vc] w fun e w'=>e = .returned x∧w'=W1
 grow:∀ (w W1 W2 W3:World) (b off n cap i vb voff m vc nb G:Nat) (hm:0<m) (hin:i<n) (hroom:cap<n+m) (hnc:n≤cap) (hn63:n+m≤9223372036854775807) (hG:n+m≤G)
  (hrz:∀ ty,(Builtin.append_ #[S,I] ty #[.slice (some ⟨b,off,none⟩) i cap,.int .i64 ((n:Int)+(m:Int) - (i:Int))]).run P w = .ok (.slice (some ⟨nb,0,none⟩) (n+m) G) W1)
  (hcp1:∀ ty dc,(Builtin.copy_ #[S,S] ty #[.slice (some ⟨nb,i * W,none⟩) (n+m - i) dc,.slice (some ⟨vb,voff,none⟩) m vc]).run P W1 = .ok (goInt m) W2)
  (hcp2:∀ ty dc sc,(Builtin.copy_ #[S,S] ty #[.slice (some ⟨nb,(i+m) * W,none⟩) (n+m - (i+m)) dc,.slice (some ⟨b,off+i * W,none⟩) (n - i) sc]).run P W2.drew = .ok (goInt (n - i:Nat)) W3),
  Calls P f #[.slice (some ⟨b,off,none⟩) n cap,.int .i64 i,.slice (some ⟨vb,voff,none⟩) m vc] w fun e w'=>e = .returned (.slice (some ⟨nb,0,none⟩) (n+m) G)∧w'=W3
theorem YU {row:Array Value} {off N i m:Nat} (h:off+N≤row.size) (hi:i≤N):seg row off N=(seg row off N).take i++(seg row off N).drop i∧(seg row off N).take i=seg row off i∧(seg row off N).drop i=seg row (off+i) (N - i):=by
 refine ⟨(take_append_drop _ _).symm,?_,?_⟩
 ·have:=Co (row:=row) (o:=off) (n:=N) (i:=0) (m:=i) (by omega)
  simpa using this
 ·have:=Co (row:=row) (o:=off) (n:=N) (i:=i) (m:=N - i) (by omega)
  rw[← this,take_of_length_le]
  rw[length_drop,Ed h]
  omega
theorem QK.run {P:Program} {f O S E I W:Nat} {i0:TypeInfo} {z:Value} (K:QK P f O S E I W i0 z) (hW:0<W):T0 P f W where
 enter:=K.enter
 run:=by
  intro w b off n cap i vb voff vc vs us row vrow e ve fr vfr hb hvb hne hsz hvsz hvs hus h1 h2 hfr hvfr hn0 hn hi hbig hvc
  have hsW:=K.hsz
  have hmn:n * W≤cap * W:=Nat.mul_le_mul_right _ hn
  have hin':i * W≤n * W:=Nat.mul_le_mul_right _ hi
  have hvl:vs.length=n * W:=by rw[← hvs,Ed (by omega)]
  have hul:us.length=W:=by rw[← hus,Ed hvsz]
  have hm1:(n+1) * W=n * W+W:=Nat.succ_mul _ _
  have hi1:(i+1) * W=i * W+W:=Nat.succ_mul _ _
  have hni:(n - i) * W=n * W - i * W:=Nat.sub_mul _ _ _
  obtain ⟨-,m1,m2⟩:=YU (row:=row) (off:=off) (N:=n * W) (i:=i * W) (m:=0) (by omega) hin'
  rw[hvs] at m1 m2
  have hsrc:∀ w1:World,w1.heap=w.heap→(Builtin.firstCells i0.size 1 (.slice (some ⟨vb,voff,none⟩) 1 vc)).run P w1 = .ok us.toArray w1:=fun w1 hw1=>by
   rw[hsW]
   have:=Bk (P:=P) (w:=w1) (b:=vb) (off:=voff) (n:=1) (cap:=vc) (size:=W) (row:=vrow) (e:=ve) (fr:=vfr) (by rw[hw1];exact hvb) (by omega)
   rw[Nat.one_mul,hus] at this
   exact this
  have hlen:∀ w1,(Builtin.lenOf (.slice (some ⟨vb,voff,none⟩) 1 vc)).run P w1 = .ok 1 w1:=fun w1=>rfl
  rcases Nat.lt_or_ge i n with hlt | hge
  ·have hdl:(vs.drop (i * W)).length=(n - i) * W:=by rw[length_drop,hvl,hni]
   have hone:∀ v∈vs.drop (i * W),v.oneCell'=true:=fun v hv=>h1 v (mem_of_mem_drop hv)
   have hsh:n+1 - (i+1)=n - i:=by omega
   by_cases hroom:n+1≤cap
   ·
    have hmr:(n+1) * W≤cap * W:=Nat.mul_le_mul_right _ hroom
    have hbd:w.drew.heap[b]?=some (.cells row e fr):=hb
    have hvd:w.drew.heap[vb]?=some (.cells vrow ve vfr):=hvb
    have c1:∀ ty dc sc,(Builtin.copy_ #[S,S] ty #[.slice (some ⟨b,off+(i+1) * W,none⟩) (n+1 - (i+1)) dc,.slice (some ⟨b,off+i * W,none⟩) (n+1 - i) sc]).run P w.drew = .ok (goInt (n - i:Nat)) (EY w.drew b (off+(i+1) * W) (vs.drop (i * W))):=by
     intro ty dc sc
     have:=Ek (P:=P) (w:=w.drew) (dT:=S) (sT:=S) (ty:=ty) K.ht K.hi (o:=off+(i+1) * W) (dl:=n+1 - (i+1)) (dc:=dc) (so:=off+i * W) (sl:=n+1 - i) (sc:=sc) (m:=n - i) hbd hbd (by simp only[Nat.min_def];split <;>omega)
      (by rw[hsW];omega) (by rw[hsW];omega) (fun j a=>hfr j (by omega)) (by rw[hsW,hni,← m2];exact hone)
     rw[hsW,hni,← m2] at this
     exact this
    obtain ⟨row1,a1,a2,a3,a4⟩:=DN (vs.drop (i * W)) w.drew b (off+(i+1) * W) row e fr hbd (by rw[hdl];omega)
    obtain ⟨vrow1,vfr1,v1,v2,v3,-⟩:=(ET (vs.drop (i * W)) w.drew b (off+(i+1) * W)).cells vb vrow ve vfr hvd
    have hvs1:seg vrow1 voff W=us:=by rw[← hus];exact At fun j _ _=>v3 j fun h=>hne h.1
    have c2:∀ ty dc,(Builtin.copy_ #[S,S] ty #[.slice (some ⟨b,off+i * W,none⟩) (n+1 - i) dc,.slice (some ⟨vb,voff,none⟩) 1 vc]).run P (EY w.drew b (off+(i+1) * W) (vs.drop (i * W))) = .ok (goInt (1:Nat)) (EY (EY w.drew b (off+(i+1) * W) (vs.drop (i * W))) b (off+i * W) us):=by
     intro ty dc
     have:=Ek (P:=P) (w:=EY w.drew b (off+(i+1) * W) (vs.drop (i * W))) (dT:=S) (sT:=S) (ty:=ty) K.ht K.hi (o:=off+i * W) (dl:=n+1 - i) (dc:=dc) (so:=voff) (sl:=1) (sc:=vc) (m:=1) a1 v1 (by simp only[Nat.min_def];split <;>omega)
      (by rw[hsW,a2];omega) (by rw[hsW,v2];omega) (fun j a=>hfr j (by omega)) (by rw[hsW,Nat.one_mul,hvs1];exact h2)
     rw[hsW,Nat.one_mul,hvs1] at this
     exact this
    obtain ⟨row2,b1,b2,b3,b4⟩:=DN us _ b (off+i * W) row1 e fr a1 (by rw[hul];omega)
    refine (K.shift w _ _ b off n cap i vb voff 1 vc (by omega) hlt hroom (by omega) (fun lb cb => ?_) c1 c2).mono ?_
    ·rw[K.over,S1 w S I E i0 K.ht K.hi vb voff 1 vc b _ lb cb hne hb hvb (by omega) (by omega) hvfr]
     rfl
    rintro x w' ⟨rfl,rfl⟩
    refine ⟨b,off,cap,rfl,hroom,row2,e,fr,b1,by rw[b2,a2];omega,?_,hfr,.inl ⟨rfl,rfl,rfl,?_⟩⟩
    ·have e1:(n+1) * W=i * W+(W+(n - i) * W):=by rw[hni];omega
     rw[e1,HK,HK,append_assoc]
     rw[hdl] at a3 a4
     rw[hul] at b3 b4
     congr 1
     ·rw[m1]
      exact At fun j p q=>(b4 j (by omega)).trans (a4 j (by omega))
     ·rw[b3]
      congr 1
      rw[show off+i * W+W=off+(i+1) * W by omega,← a3]
      exact At fun j p q=>b4 j (by omega)
    ·have x1:=ET (vs.drop (i * W)) w.drew b (off+(i+1) * W)
     have x2:=ET us (EY w.drew b (off+(i+1) * W) (vs.drop (i * W))) b (off+i * W)
     rw[hdl] at x1
     rw[hul] at x2
     exact (LD w (fun _ _=>False)).trans (x1.trans x2 (W'' :=fun b' t=>b'=b∧off≤t∧t<off+cap * W) (fun b' t h=>⟨h.1,by omega,by omega⟩) (fun b' t _ h=>⟨h.1,by omega,by omega⟩)) (fun _ _ h=>h.elim) (fun _ _ _ h=>h)
   ·
    have hroom:cap<n+1:=by omega
    have hkk:(n:Int)+((1:Nat):Int) - (i:Int)=((n+1 - i:Nat):Int):=by omega
    have hik:i+(n+1 - i)=n+1:=by omega
    have hold:(Builtin.firstCells i0.size i (.slice (some ⟨b,off,none⟩) i cap)).run P w.drew = .ok (vs.take (i * W)).toArray w.drew:=by
     rw[hsW,m1]
     exact Bk (w:=w.drew) (b:=b) (row:=row) (e:=e) (fr:=fr) hb (by omega)
    have hgcap:=grownCap_ge w (n+1) cap E
    have hncap:Builtin.nextslicecap (n+1) cap≤2 * (n+1):=nextslicecap_le hroom
    have hrz:∀ ty,(Builtin.append_ #[S,I] ty #[.slice (some ⟨b,off,none⟩) i cap,.int .i64 ((n:Int)+((1:Nat):Int) - (i:Int))]).run P w =
      .ok (.slice (some ⟨w.heap.size,0,none⟩) (n+1) (grownCap w (n+1) cap E)) (w.drew.alloc (.cells ((vs.take (i * W)).toArray++Builtin.zeroCells z.cells (n+1 - i)++Builtin.zeroCells z.cells (grownCap w (n+1) cap E - (n+1))) E)):=by
     intro ty
     have hb1:=K.hb
     have k1:(n+1 - i) * i0.bytes≤1000001 * 1024:=Nat.mul_le_mul (by omega) hb1
     have k2:Builtin.nextslicecap (n+1) cap * i0.bytes≤2000002 * 1024:=Nat.mul_le_mul (by omega) hb1
     have h:=Lib.run_append_grow_zeros w S I ty E i0 z .i64 .i64 K.ht K.hI K.hi K.hz (some ⟨b,off,none⟩) i cap (vs.take (i * W)) hold (n+1 - i) (by omega) (by rw[hsW];exact hW) (by omega) (by omega) (Nat.le_trans k1 (by decide)) (by rw[hik];exact Nat.le_trans k2 (by decide))
     rw[hik] at h
     rw[hkk]
     exact h
    generalize hG:grownCap w (n+1) cap E=G at hrz hgcap
    obtain ⟨ROW,hROW⟩:∃ ROW:Array Value,ROW=(vs.take (i * W)).toArray++Builtin.zeroCells z.cells (n+1 - i)++Builtin.zeroCells z.cells (G - (n+1)):=⟨_,rfl⟩
    rw[← hROW] at hrz
    have hz1:∀ k,(Builtin.zeroCells z.cells k).size=k * W:=fun k=>by simp[Builtin.zeroCells,K.hzc]
    have hRs:ROW.size=G * W:=by
     rw[hROW,Array.size_append,Array.size_append,hz1,hz1]
     have q1:(n+1 - i) * W=(n+1) * W - i * W:=Nat.sub_mul _ _ _
     have q2:(G - (n+1)) * W=G * W - (n+1) * W:=Nat.sub_mul _ _ _
     have q3:(n+1) * W≤G * W:=Nat.mul_le_mul_right _ hgcap
     have q4:(vs.take (i * W)).toArray.size=i * W:=by rw[List.size_toArray,length_take,hvl];exact Nat.min_eq_left hin'
     omega
    have hGm:(n+1) * W≤G * W:=Nat.mul_le_mul_right _ hgcap
    have hnew:(w.drew.alloc (.cells ROW E)).heap[w.heap.size]?=some (.cells ROW E (0,0)):=Fr (w:=w.drew) (.cells ROW E)
    have hxa:Ay w (w.drew.alloc (.cells ROW E)) (fun _ _=>False):=(LD w _).trans (Ay.alloc w.drew _ _) (fun _ _ h=>h) (fun _ _ _ h=>h)
    obtain ⟨vrow1,vfr1,v1,v2,v3,-⟩:=hxa.cells vb vrow ve vfr hvb
    have hvs1:seg vrow1 voff W=us:=by rw[← hus];exact At fun j _ _=>v3 j fun h=>h
    have hvn:vb≠w.heap.size:=fun h=>by rw[h,Array.getElem?_eq_none (Nat.le_refl _)] at hvb;cases hvb
    have hbn:b≠w.heap.size:=fun h=>by rw[h,Array.getElem?_eq_none (Nat.le_refl _)] at hb;cases hb
    have c1:∀ ty dc,(Builtin.copy_ #[S,S] ty #[.slice (some ⟨w.heap.size,i * W,none⟩) (n+1 - i) dc,.slice (some ⟨vb,voff,none⟩) 1 vc]).run P (w.drew.alloc (.cells ROW E)) = .ok (goInt (1:Nat)) (EY (w.drew.alloc (.cells ROW E)) w.heap.size (i * W) us):=by
     intro ty dc
     have:=Ek (P:=P) (w:=w.drew.alloc (.cells ROW E)) (dT:=S) (sT:=S) (ty:=ty) K.ht K.hi (o:=i * W) (dl:=n+1 - i) (dc:=dc) (so:=voff) (sl:=1) (sc:=vc) (m:=1) hnew v1 (by simp only[Nat.min_def];split <;>omega)
      (by rw[hsW];omega) (by rw[hsW,v2];omega) (fun j a=>by simp) (by rw[hsW,Nat.one_mul,hvs1];exact h2)
     rw[hsW,Nat.one_mul,hvs1] at this
     exact this
    obtain ⟨row1,a1,a2,a3,a4⟩:=DN us _ w.heap.size (i * W) ROW E (0,0) hnew (by rw[hul];omega)
    have x1:=ET us (w.drew.alloc (.cells ROW E)) w.heap.size (i * W)
    obtain ⟨row0,fr0,d1,d2,d3,-⟩:=(hxa.trans x1 (W'' :=fun b' t=>b'=w.heap.size) (fun _ _ h=>h.elim) (fun b' t _ h=>h.1)).cells b row e fr hb
    have hvd:seg row0 (off+i * W) ((n - i) * W)=vs.drop (i * W):=by
     rw[m2,hni]
     exact At fun j _ _=>d3 j hbn
    have a1d:(EY (w.drew.alloc (.cells ROW E)) w.heap.size (i * W) us).drew.heap[w.heap.size]?=some (.cells row1 E (0,0)):=a1
    have d1d:(EY (w.drew.alloc (.cells ROW E)) w.heap.size (i * W) us).drew.heap[b]?=some (.cells row0 e fr0):=d1
    have c2:∀ ty dc sc,(Builtin.copy_ #[S,S] ty #[.slice (some ⟨w.heap.size,(i+1) * W,none⟩) (n+1 - (i+1)) dc,.slice (some ⟨b,off+i * W,none⟩) (n - i) sc]).run P (EY (w.drew.alloc (.cells ROW E)) w.heap.size (i * W) us).drew = .ok (goInt (n - i:Nat)) (EY (EY (w.drew.alloc (.cells ROW E)) w.heap.size (i * W) us).drew w.heap.size ((i+1) * W) (vs.drop (i * W))):=by
     intro ty dc sc
     have:=Ek (P:=P) (dT:=S) (sT:=S) (ty:=ty) K.ht K.hi (o:=(i+1) * W) (dl:=n+1 - (i+1)) (dc:=dc) (so:=off+i * W) (sl:=n - i) (sc:=sc) (m:=n - i) a1d d1d (by simp only[Nat.min_def];split <;>omega)
      (by rw[hsW,a2];omega) (by rw[hsW,d2];omega) (fun j a=>by simp) (by rw[hsW,hvd];exact hone)
     rw[hsW,hvd] at this
     exact this
    obtain ⟨row2,b1,b2,b3,b4⟩:=DN (vs.drop (i * W)) _ w.heap.size ((i+1) * W) row1 E (0,0) a1d (by rw[hdl,a2];omega)
    refine (K.grow w _ _ _ b off n cap i vb voff 1 vc w.heap.size G (by omega) hlt hroom hn (by omega) hgcap hrz c1 c2).mono ?_
    rintro x w' ⟨rfl,rfl⟩
    refine ⟨w.heap.size,0,G,rfl,hgcap,row2,E,(0,0),b1,by rw[b2,a2];omega,?_,fun j _=>by simp,.inr ⟨Nat.le_refl _,?_⟩⟩
    ·have e1:(n+1) * W=i * W+(W+(n - i) * W):=by rw[hni];omega
     rw[e1,HK,HK,append_assoc]
     rw[hdl] at b3 b4
     rw[hul] at a3 a4
     congr 1
     ·have e2:seg ROW 0 (i * W)=vs.take (i * W):=by
       rw[hROW,seg]
       simp only[drop_zero,Array.toList_append,append_assoc]
       rw[List.toList_toArray,take_left' (by rw[length_take,hvl];exact Nat.min_eq_left hin')]
      rw[← e2]
      exact At fun j p q=>(b4 j (by omega)).trans (a4 j (by omega))
     ·rw[Nat.zero_add]
      congr 1
      ·rw[← a3]
       exact At fun j p q=>b4 j (by omega)
      ·rw[show i * W+W=(i+1) * W by omega,← b3]
    ·have x2:=ET (vs.drop (i * W)) (EY (w.drew.alloc (.cells ROW E)) w.heap.size (i * W) us).drew w.heap.size ((i+1) * W)
     have x3:=((hxa.trans x1 (W'' :=fun b' t=>b'=w.heap.size) (fun _ _ h=>h.elim) (fun b' t _ h=>h.1)).drew).trans x2 (W'' :=fun b' t=>b'=w.heap.size) (fun _ _ h=>h) (fun b' t _ h=>h.1)
     exact x3.mono fun b' t hb' h=>by have h:b'=w.heap.size:=h;omega
  ·obtain rfl:i=n:=by omega
   have htk:vs.take (i * W)=vs:=take_of_length_le (by omega)
   have hdr:vs.drop (i * W)=[]:=drop_eq_nil_of_le (by omega)
   rw[htk,hdr,append_nil]
   by_cases hroom:i+1≤cap
   ·have hmr:(i+1) * W≤cap * W:=Nat.mul_le_mul_right _ hroom
    have hrun:∀ ty,(Builtin.append_ #[S,S] ty #[.slice (some ⟨b,off,none⟩) i cap,.slice (some ⟨vb,voff,none⟩) 1 vc]).run P w = .ok (.slice (some ⟨b,off,none⟩) (i+1) cap) (EY w b (off+i * W) us):=by
     intro ty
     have:=JY (P:=P) (w:=w) (t1:=S) (t2:=S) (ty:=ty) K.ht (.inr ⟨_,K.ht⟩) K.hi (b:=b) (off:=off) (n:=i) (cap:=cap) (m:=1) (x:=.slice (some ⟨vb,voff,none⟩) 1 vc) (vs:=us) hb hlen (hsrc w rfl) hroom (by rw[hsW,hul];omega) (by rw[hsW];exact fun j a _=>hfr j (by omega)) h2
     rw[hsW] at this
     exact this
    obtain ⟨row1,a1,a2,a3,a4⟩:=DN us w b (off+i * W) row e fr hb (by rw[hul];omega)
    refine (K.atEnd w _ _ b off i cap vb voff 1 vc (by omega) hrun).mono ?_
    rintro x w' ⟨rfl,rfl⟩
    refine ⟨b,off,cap,rfl,hroom,row1,e,fr,a1,by rw[a2];omega,?_,hfr,.inl ⟨rfl,rfl,rfl,?_⟩⟩
    ·rw[hm1,HK]
     rw[hul] at a3 a4
     rw[a3]
     congr 1
     rw[← hvs]
     exact At fun j p q=>a4 j (by omega)
    ·have x1:=ET us w b (off+i * W)
     rw[hul] at x1
     exact x1.mono fun b' t _ h=>⟨h.1,by omega,by omega⟩
   ·have hroom:cap<i+1:=by omega
    have hgcap:=grownCap_ge w (i+1) cap E
    have hrun:∀ ty,(Builtin.append_ #[S,S] ty #[.slice (some ⟨b,off,none⟩) i cap,.slice (some ⟨vb,voff,none⟩) 1 vc]).run P w = .ok (.slice (some ⟨w.heap.size,0,none⟩) (i+1) (grownCap w (i+1) cap E))
      (w.drew.alloc (.cells (vs.toArray++us.toArray++Builtin.zeroCells z.cells (grownCap w (i+1) cap E - (i+1))) E)):=by
     intro ty
     exact HL (P:=P) (w:=w) (t1:=S) (t2:=S) (ty:=ty) (z:=z) K.ht (.inr ⟨_,K.ht⟩) K.hi K.hz (n:=i) (cap:=cap) (m:=1) (olds:=vs.toArray) (vs:=us.toArray) hlen
      (fun w1 hw1=>by
        have:=Bk (P:=P) (w:=w1) (b:=b) (off:=off) (n:=i) (cap:=cap) (size:=W) (row:=row) (e:=e) (fr:=fr) (by rw[hw1];exact hb) (by omega)
        rw[hvs] at this
        rw[hsW];exact this) hsrc hroom (by unfold lim;omega) K.hb
    generalize grownCap w (i+1) cap E=G at hrun hgcap
    obtain ⟨ROW,hROW⟩:∃ ROW:Array Value,ROW=vs.toArray++us.toArray++Builtin.zeroCells z.cells (G - (i+1)):=⟨_,rfl⟩
    rw[← hROW] at hrun
    have hz1:∀ k,(Builtin.zeroCells z.cells k).size=k * W:=fun k=>by simp[Builtin.zeroCells,K.hzc]
    have q2:(G - (i+1)) * W=G * W - (i+1) * W:=Nat.sub_mul _ _ _
    have q3:(i+1) * W≤G * W:=Nat.mul_le_mul_right _ hgcap
    have hRs:ROW.size=G * W:=by
     rw[hROW,Array.size_append,Array.size_append,hz1]
     simp only[List.size_toArray]
     omega
    have hnew:(w.drew.alloc (.cells ROW E)).heap[w.heap.size]?=some (.cells ROW E (0,0)):=Fr (w:=w.drew) (.cells ROW E)
    have hxa:Ay w (w.drew.alloc (.cells ROW E)) (fun _ _=>False):=(LD w _).trans (Ay.alloc w.drew _ _) (fun _ _ h=>h) (fun _ _ _ h=>h)
    refine (K.atEnd w _ _ b off i cap vb voff 1 vc (by omega) hrun).mono ?_
    rintro x w' ⟨rfl,rfl⟩
    refine ⟨w.heap.size,0,G,rfl,hgcap,ROW,E,(0,0),hnew,by omega,?_,fun j _=>by simp,.inr ⟨Nat.le_refl _,hxa⟩⟩
    rw[hROW,seg]
    simp only[drop_zero,Array.toList_append,List.toList_toArray]
    rw[take_left' (by simp[hvl,hul];omega)]
set_option maxHeartbeats 4000000 in
set_option maxRecDepth 1000000 in
theorem Zc (w W1 W2:World) (b off n cap i vb voff m vc:Nat) (hm:0<m) (hin:i<n) (hroom:n+m≤cap) (hn63:n+m≤9223372036854775807)
  (hov:∀ lb cb,(callFunc 76 #[.slice (some ⟨vb,voff,none⟩) m vc,.slice (some ⟨b,off+(i+m) * 3,none⟩) lb cb]).run Tryz.prog w = .ok (.value (.bool false)) w)
  (hcp1:∀ ty dc sc,(Builtin.copy_ #[24,24] ty #[.slice (some ⟨b,off+(i+m) * 3,none⟩) (n+m - (i+m)) dc,.slice (some ⟨b,off+i * 3,none⟩) (n+m - i) sc]).run Tryz.prog w.drew = .ok (goInt (n - i:Nat)) W1)
  (hcp2:∀ ty dc,(Builtin.copy_ #[24,24] ty #[.slice (some ⟨b,off+i * 3,none⟩) (n+m - i) dc,.slice (some ⟨vb,voff,none⟩) m vc]).run Tryz.prog W1 = .ok (goInt m) W2) :
  Calls Tryz.prog 35 #[.slice (some ⟨b,off,none⟩) n cap,.int .i64 i,.slice (some ⟨vb,voff,none⟩) m vc] w fun e w'=>e = .returned (.slice (some ⟨b,off,none⟩) (n+m) cap)∧w'=W2:=by
 have hz1:¬ ((m:Int)=0):=by omega
 have hz2:¬ ((i:Int)=(n:Int)):=by omega
 have hw1:IntKind.i64.wrap ((i:Int)+(m:Int))=(i:Int)+(m:Int):=by rw[IntKind.wrap_i64];omega
 have hb1:(0:Int)≤(i:Int)+(m:Int):=by omega
 have hle:i≤n:=by omega
 have htn:((i:Int)+(m:Int)).toNat=i+m:=by omega
 have hb2:¬ (cap=i+m):=by omega
 have hb3:(i:Int)≤(n:Int)+(m:Int):=by omega
 have hb4:¬ (cap=i):=by omega
 have mixed:Tryz.prog.follows .mixedOrders=true:=Tryz.checked.mixed
 go_enter Tryz.func35,Tryz.ntmps35
 go_wp2_with (simp only[hov])
 go_region_law_o (refine step_copy_runI rfl _ _ 24 24 rfl _ _ (by simp[Act.eval,Act.put]) (by simp[Act.eval,Act.put]) (hcp1 _ _ _) ?_)
 go_wp2_with (at_builtin;refine wpList_copy_runI _ rfl _ _ 24 24 rfl _ _ rfl rfl (hcp2 _ _) ?_)
 go_ret
 exact ⟨rfl,rfl⟩
set_option maxHeartbeats 4000000 in
set_option maxRecDepth 1000000 in
theorem Zb (w W1:World) (x:Value) (b off n cap vb voff m vc:Nat) (hm:0<m)
  (hrun:∀ ty,(Builtin.append_ #[24,24] ty #[.slice (some ⟨b,off,none⟩) n cap,.slice (some ⟨vb,voff,none⟩) m vc]).run Tryz.prog w = .ok x W1) :
  Calls Tryz.prog 35 #[.slice (some ⟨b,off,none⟩) n cap,.int .i64 n,.slice (some ⟨vb,voff,none⟩) m vc] w fun e w'=>e = .returned x∧w'=W1:=by
 have hz1:¬ ((m:Int)=0):=by omega
 have mixed:Tryz.prog.follows .mixedOrders=true:=Tryz.checked.mixed
 go_enter Tryz.func35,Tryz.ntmps35
 go_wp2_with (at_builtin;refine Lib.wpList_append_run _ rfl _ _ _ _ rfl _ _ rfl rfl _ _ (hrun _) ?_)
 all_goals (go_ret;exact ⟨rfl,rfl⟩)
set_option maxHeartbeats 4000000 in
set_option maxRecDepth 1000000 in
theorem al (w W1 W2 W3:World) (b off n cap i vb voff m vc nb G:Nat) (hm:0<m) (hin:i<n) (hroom:cap<n+m) (hnc:n≤cap) (hn63:n+m≤9223372036854775807) (hG:n+m≤G)
  (hrz:∀ ty,(Builtin.append_ #[24,3] ty #[.slice (some ⟨b,off,none⟩) i cap,.int .i64 ((n:Int)+(m:Int) - (i:Int))]).run Tryz.prog w = .ok (.slice (some ⟨nb,0,none⟩) (n+m) G) W1)
  (hcp1:∀ ty dc,(Builtin.copy_ #[24,24] ty #[.slice (some ⟨nb,i * 3,none⟩) (n+m - i) dc,.slice (some ⟨vb,voff,none⟩) m vc]).run Tryz.prog W1 = .ok (goInt m) W2)
  (hcp2:∀ ty dc sc,(Builtin.copy_ #[24,24] ty #[.slice (some ⟨nb,(i+m) * 3,none⟩) (n+m - (i+m)) dc,.slice (some ⟨b,off+i * 3,none⟩) (n - i) sc]).run Tryz.prog W2.drew = .ok (goInt (n - i:Nat)) W3) :
  Calls Tryz.prog 35 #[.slice (some ⟨b,off,none⟩) n cap,.int .i64 i,.slice (some ⟨vb,voff,none⟩) m vc] w fun e w'=>e = .returned (.slice (some ⟨nb,0,none⟩) (n+m) G)∧w'=W3:=by
 have hz1:¬ ((m:Int)=0):=by omega
 have hz2:¬ ((i:Int)=(n:Int)):=by omega
 have hz3:(cap:Int)<(n:Int)+(m:Int):=by omega
 have hw1:IntKind.i64.wrap ((i:Int)+(m:Int))=(i:Int)+(m:Int):=by rw[IntKind.wrap_i64];omega
 have hb1:(0:Int)≤(i:Int)+(m:Int):=by omega
 have hle:i≤n:=by omega
 have htn:((i:Int)+(m:Int)).toNat=i+m:=by omega
 have hGi:¬ (G=i):=by omega
 have hGim:¬ (G=i+m):=by omega
 have hci:¬ (cap=i):=by omega
 have hb3:(i:Int)≤(n:Int):=by omega
 have mixed:Tryz.prog.follows .mixedOrders=true:=Tryz.checked.mixed
 go_enter Tryz.func35,Tryz.ntmps35
 go_wp2_with (first
  | (at_builtin;refine Lib.wpList_append_run _ rfl _ _ _ _ rfl _ _ rfl rfl _ _ (hrz _) ?_)
  | (at_builtin;refine wpList_copy_runI _ rfl _ _ 24 24 rfl _ _ rfl rfl (hcp1 _ _) ?_))
 go_region_law_o (refine step_copy_runI rfl _ _ 24 24 rfl (.slice (some ⟨nb,(i+m) * 3,none⟩) (n+m - (i+m)) (G - (i+m))) (.slice (some ⟨b,off+i * 3,none⟩) (n - i) (cap - i)) (by simp[Act.eval,Act.put]) (by simp[Act.eval,Act.put]) (hcp2 3 (G - (i+m)) (cap - i)) ?_)
 go_wp2
 go_ret
 exact ⟨rfl,rfl⟩
theorem Z8:QK Tryz.prog 35 76 24 68 3 3 Tryz.t68 (Value.agg #[.int .i64 0,.int .i64 0,.slice none 0 0]) where
 enter:=fun xs w=>by
  have h1 : Tryz.f35.name ≠ "runtime.NumGoroutine" := by
   have : (Tryz.f35.name == "runtime.NumGoroutine") = false := by kernel_rfl
   simpa using this
  have hs:Tryz.f35.body.isSome=true:=by kernel_rfl
  obtain ⟨c,hb⟩:=Option.isSome_iff_exists.1 hs
  simp[callFunc,Tryz.func35,h1,hb]
 ht:=Tryz.underlying24
 hI:=Tryz.underlying3
 hi:=by kernel_rfl
 hz:=by kernel_rfl
 hsz:=by kernel_rfl
 hb:=by decide
 hzc:=by rfl
 over:=fun x w=>by
  rw[run_callFunc_extern Tryz.func76 (by kernel_rfl) (by kernel_rfl) (by kernel_rfl) (e:=Extern.SlicesOverlaps.overlaps #[24,24] #[3]) (by kernel_rfl)]
 shift:=Zc
 atEnd:=Zb
 grow:=al
theorem ed:T0 Tryz.prog 35 3:=Z8.run (by decide)
theorem ok35 {E:Av}:Cb Tryz.prog E 35 (.sem [.io,.val,.io] (Qr [.leaf,.leaf,.sl .own [.leaf]])):=cG (el:=[.leaf,.leaf,.sl .own [.leaf]]) ed
end Go.Proofs.YtokonabdnlckdaaGreat.DS
end
noncomputable section
namespace Go.Proofs.YtokonabdnlckdaaGreat.D
open Go Go.Desk
def AE (f:Func):Code:=match f.body with
 | some c=>c
 | none => .skip
def L7:List (Nat × TD):=[
 (2,⟨false,1,8,[.leaf],[.int .i64 0],.int .i64⟩),
 (3,⟨false,1,8,[.leaf],[.int .i64 0],.int .i64⟩),
 (4,⟨false,1,1,[.leaf],[.bool false],.bool⟩),
 (5,⟨false,1,1,[.leaf],[.int .u8 0],.int .u8⟩),
 (22,⟨false,1,24,[.sl .own [.leaf]],[.lst 0 []],.slc 5⟩),
 (24,⟨false,1,24,[.sl .own [.leaf,.leaf,.sl .own [.leaf]]],[.lst 0 []],.slc 68⟩),
 (25,⟨false,1,24,[.sl .own [.sl .own [.leaf,.leaf,.sl .own [.leaf]],.leaf,.leaf,.leaf,.leaf]],[.lst 0 []],.slc 57⟩),
 (27,⟨true,2,48,[.sl .own [.leaf,.leaf,.sl .own [.leaf]],.sl .own [.sl .own [.leaf,.leaf,.sl .own [.leaf]],.leaf,.leaf,.leaf,.leaf]],[.lst 0 [],.lst 0 []],.st [(0,24),(1,25)]⟩),
 (30,⟨false,1,24,[.sl .own [.leaf]],[.lst 0 []],.slc 55⟩),
 (48,⟨false,1,8,[.leaf],[.nil],.ptr 97⟩),
 (53,⟨false,1,24,[.sl .own [.sl .own [.leaf],.leaf,.leaf,.leaf,.leaf]],[.lst 0 []],.slc 60⟩),
 (54,⟨false,1,24,[.sl .own [.leaf,.leaf,.sl .own [.leaf]]],[.lst 0 []],.slc 136⟩),
 (55,⟨false,1,4,[.leaf],[.flt .f32 0],.flt .f32⟩),
 (57,⟨true,5,40,[.sl .own [.leaf,.leaf,.sl .own [.leaf]],.leaf,.leaf,.leaf,.leaf],[.lst 0 [],.int .i64 0,.flt .f32 0,.bool false,.bool false],.st [(0,54),(1,2),(2,55),(3,4),(4,4)]⟩),
 (60,⟨true,5,40,[.sl .own [.leaf],.leaf,.leaf,.leaf,.leaf],[.lst 0 [],.int .i64 0,.flt .f32 0,.bool false,.bool false],.st [(0,30),(1,2),(2,55),(3,4),(4,4)]⟩),
 (68,⟨true,3,40,[.leaf,.leaf,.sl .own [.leaf]],[.int .i64 0,.int .i64 0,.lst 0 []],.st [(0,2),(1,2),(2,30)]⟩),
 (74,⟨false,1,8,[.leaf],[.nil],.ptr 27⟩),
 (79,⟨false,1,8,[.leaf],[.nil],.ptr 57⟩),
 (84,⟨false,1,8,[.leaf],[.flt .f64 0],.flt .f64⟩),
 (90,⟨false,1,24,[.sl .own [.sl .own [.leaf]]],[.lst 0 []],.slc 30⟩),
 (95,⟨false,1,8,[.leaf],[.int .u64 0],.int .u64⟩),
 (97,⟨true,3,40,[.sl .own [.leaf],.leaf,.leaf],[.lst 0 [],.int .i64 0,.int .u64 0],.st [(0,22),(1,3),(2,95)]⟩),
 (106,⟨false,1,24,[.sl .own [.leaf]],[.lst 0 []],.slc 4⟩),
 (116,⟨false,1,8,[.leaf],[.nil],.ptr 68⟩),
 (123,⟨false,1,24,[.sl .own [.leaf]],[.lst 0 []],.slc 2⟩),
 (136,⟨true,3,40,[.leaf,.leaf,.sl .own [.leaf]],[.int .i64 0,.int .i64 0,.lst 0 []],.st [(0,2),(1,2),(2,30)]⟩),
 (138,⟨false,1,8,[.leaf],[.nil],.ptr 136⟩),
 (156,⟨true,5,20,[.leaf,.leaf,.leaf,.leaf,.leaf],[.flt .f32 0,.flt .f32 0,.flt .f32 0,.flt .f32 0,.flt .f32 0],.st [(0,55),(1,55),(2,55),(3,55),(4,55)]⟩),
 (158,⟨true,4,16,[.leaf,.leaf,.leaf,.leaf],[.flt .f32 0,.flt .f32 0,.flt .f32 0,.flt .f32 0],.st [(0,55),(1,55),(2,55),(3,55)]⟩),
 (163,⟨true,3,12,[.leaf,.leaf,.leaf],[.flt .f32 0,.flt .f32 0,.flt .f32 0],.st [(0,55),(1,55),(2,55)]⟩),
 (165,⟨true,5,20,[.leaf,.leaf,.leaf,.leaf,.leaf],[.flt .f32 0,.flt .f32 0,.flt .f32 0,.flt .f32 0,.flt .f32 0],.st [(0,163),(3,55),(4,55)]⟩),
 (171,⟨true,4,40,[.leaf,.leaf,.leaf,.sl .own [.leaf]],[.flt .f32 0,.flt .f32 0,.flt .f32 0,.lst 0 []],.st [(0,55),(1,55),(2,55),(3,30)]⟩),
 (174,⟨false,1,8,[.leaf],[.int .u64 0],.int .u64⟩),
 (186,⟨false,1,4,[.leaf],[.int .u32 0],.int .u32⟩),
 (196,⟨false,1,8,[.leaf],[.nil],.ptr 163⟩)]
def c3:Code:=AE Tryz.f3
def c6:Code:=AE Tryz.f6
def c7:Code:=AE Tryz.f7
def c8:Code:=AE Tryz.f8
def c9:Code:=AE Tryz.f9
def iX:Code:=AE Tryz.f10
def dw:Code:=AE Tryz.f11
def gO:Code:=AE Tryz.f12
def gP:Code:=AE Tryz.f13
def c23:Code:=AE Tryz.f23
def ae:Code:=AE Tryz.f24
def an:Code:=AE Tryz.f25
def iM:Code:=AE Tryz.f26
def ie:Code:=AE Tryz.f27
def aU:Code:=AE Tryz.f28
def iN:Code:=AE Tryz.f29
def gB:Code:=AE Tryz.f30
def fL:Code:=AE Tryz.f31
def fN:Code:=AE Tryz.f32
def bj:Code:=AE Tryz.f33
def gu:Code:=AE Tryz.f34
def iI:Code:=AE Tryz.f36
def aF:Code:=AE Tryz.f37
def iQ:Code:=AE Tryz.f38
def bt:Code:=AE Tryz.f39
def fj:Code:=AE Tryz.f40
def gF:Code:=AE Tryz.f44
def fP:Code:=AE Tryz.f58
def gv:Code:=AE Tryz.f59
def dN:Code:=AE Tryz.f60
def dt:Code:=AE Tryz.f61
def fK:Code:=AE Tryz.f62
def eW:Code:=AE Tryz.f63
def gp:Code:=AE Tryz.f64
def iK:Code:=AE Tryz.f65
def ia:Code:=AE Tryz.f66
def dk:Code:=AE Tryz.f67
def eB:Code:=AE Tryz.f68
def aJ:Code:=AE Tryz.f69
def gH:Code:=AE Tryz.f70
def dO:Code:=AE Tryz.f71
def gb:Code:=AE Tryz.f72
def ge:Code:=AE Tryz.f73
def gW:Code:=AE Tryz.f74
def db:Code:=AE Tryz.f75
def eK:Code:=AE Tryz.f78
def eg:Code:=AE Tryz.f79
def gQ:Code:=AE Tryz.f80
def gD:Code:=AE Tryz.f81
def eR:Code:=AE Tryz.f82
def iD:Code:=AE Tryz.f93
def fH:Code:=AE Tryz.f95
def fR:Code:=AE Tryz.f96
def gl:Code:=AE Tryz.f97
def fQ:Code:=AE Tryz.f98
def fS:Code:=AE Tryz.f99
def Tf:Code:=AE Tryz.f100
def bQ:Code:=AE Tryz.f101
def YQ:Code:=AE Tryz.f102
def T5:Code:=AE Tryz.f103
def aO:Code:=AE Tryz.f104
def bH:Code:=AE Tryz.f105
def aR:Code:=AE Tryz.f107
def bZ:Code:=AE Tryz.f108
def bu:Code:=AE Tryz.f124
def bC:Code:=AE Tryz.f125
def ai:Code:=AE Tryz.f126
def ax:Code:=AE Tryz.f127
def cB:Code:=AE Tryz.f128
def bN:Code:=AE Tryz.f129
def ba:Code:=AE Tryz.f130
def Xa:Code:=AE Tryz.f131
def Wz:Code:=AE Tryz.f132
def Z3:Code:=AE Tryz.f133
def bV:Code:=AE Tryz.f134
def bI:Code:=AE Tryz.f135
def WY:Code:=AE Tryz.f136
def aS:Code:=AE Tryz.f137
def WW:Code:=AE Tryz.f138
def aX:Code:=AE Tryz.f139
def aY:Code:=AE Tryz.f140
def bY:Code:=AE Tryz.f141
def bP:Code:=AE Tryz.f142
def bS:Code:=AE Tryz.f143
def Wt:Code:=AE Tryz.f144
def aI:Code:=AE Tryz.f147
def cA:Code:=AE Tryz.f157
def Z5:Code:=AE Tryz.f158
def Z7:Code:=AE Tryz.f160
def bz:Code:=AE Tryz.f161
def Z4:Code:=AE Tryz.f162
def Xp:Code:=AE Tryz.f164
def bK:Code:=AE Tryz.f165
def Wf:Code:=AE Tryz.f166
def XS:Code:=AE Tryz.f167
def cD:Code:=AE Tryz.f170
def bn:Code:=AE Tryz.f171
def af:Code:=AE Tryz.f173
def az:Code:=AE Tryz.f175
def aT:Code:=AE Tryz.f176
def bm:Code:=AE Tryz.f177
def cE:Code:=AE Tryz.f178
def ce:Code:=AE Tryz.f180
def E0:List (Nat × FD):=[
 (3,.code c3 [.val,.val] [] [(4,none)] [(0,[0,1]),(1,[0,1]),(2,[]),(3,[0,1]),(4,[1,5]),(5,[1,5,6]),(6,[1,5,6,7]),(7,[1,5,6,7,8,9,10]),(8,[1,5,6,8,9,10,11,12,13]),(9,[]),(10,[1,5,6,8,9]),(11,[1,5,6,8,9,14]),(12,[5,6,8,9,14,15]),(13,[5,6,8,9,14,15,16,17]),(14,[5,6,8,9,16,17,19]),(15,[]),(16,[5,6,8,9,16,17]),(17,[]),(18,[5,6,8,9,16]),(19,[5,8,9,16,20,21,22])]),
 (6,.code c6 [.val,.val] [] [(4,none)] [(0,[0,1]),(1,[0,1])]),
 (7,.code c7 [.val] [] [(2,some (true,2))] [(0,[0]),(1,[0,2]),(2,[2,3])]),
 (8,.code c8 [.val,.val,.val] [] [(6,none)] [(0,[0,1,2]),(1,[0,1,2]),(2,[]),(3,[0,1,2]),(4,[0,1,2]),(5,[1,2])]),
 (9,.code c9 [.val,.val] [] [(4,none),(5,none),(6,none)] [(0,[0,1]),(1,[1,2]),(2,[]),(3,[1,2]),(4,[1,2,7]),(5,[1,2,7,21,22,23]),(6,[1,2,7,21,22,23]),(7,[1,2,7,8,9,21,22,23]),(8,[1,2,7,21,22,23]),(9,[1,7]),(10,[10,11]),(1000005,[1,7])]),
 (10,.code iX [.val,.val,.val] [] [(6,none),(7,none),(8,none)] [(0,[0,1,2]),(1,[1,2,3]),(2,[]),(3,[1,3])]),
 (11,.code dw [.val,.val] [] [(4,none)] [(0,[0,1]),(1,[0,1]),(2,[]),(3,[0,1]),(4,[0,1,5]),(5,[0,1,5]),(6,[0,1,5]),(7,[]),(8,[]),(1000004,[4])]),
 (12,.code gO [.val,.val,.val] [] [(6,some (true,2)),(7,none)] [(0,[0,1,2]),(1,[1,2,3,6]),(2,[6]),(3,[1,2,3,6]),(4,[1,2,3,6,8]),(5,[1,2,6,8,9]),(6,[1,2,6,8,9]),(7,[6,8])]),
 (13,.code gP [.val,.val,.val] [] [(6,some (true,2)),(7,none)] [(0,[0,1,2]),(1,[1,2,3,6]),(2,[6]),(3,[1,2,3,6]),(4,[1,2,6,8]),(5,[1,2,6,8,9]),(6,[1,2,6,8,9,10]),(7,[1,6,8,10,11]),(8,[1,6,8,10,12]),(9,[6,8]),(10,[6]),(11,[6,8])]),
 (23,.code c23 [.val] [] [(2,none)] [(0,[0]),(1,[0])]),
 (24,.code ae [.iop] [0] [(2,some (true,2))] [(0,[0]),(1,[0,2]),(2,[0,2,3]),(3,[0,2,3,4]),(4,[0,2,3,4]),(5,[0,2,3,4]),(6,[0,2,3,4,5]),(7,[0,2,3,4,5]),(8,[0,2,3,4,5]),(9,[0,2,3,4,5]),(10,[0,2,3,4,5]),(11,[0,2,3]),(12,[0,2,3,6]),(13,[0,2,3,6]),(14,[0,2,3,6]),(15,[0,2,3,6,7]),(16,[0,2,3,6,7]),(17,[0,2,3,6,7]),(18,[0,2,3]),(1000003,[0,2,3]),(1000012,[0,2,3])]),
 (25,.code an [.val] [] [(2,none)] [(0,[0]),(1,[1]),(2,[]),(3,[1]),(4,[1,20,21,22]),(5,[1,20,21,22]),(6,[1,4,20,21,22]),(7,[]),(8,[1,20,21,22]),(9,[1]),(10,[1,44,45,46]),(11,[1,44,45,46]),(12,[1,6,44,45,46]),(13,[]),(14,[1,44,45,46]),(15,[]),(1000004,[1,2,69]),(1000010,[2])]),
 (26,.code iM [.val] [] [(2,none)] [(0,[0]),(1,[0])]),
 (27,.code ie [.val,.val,.val] [] [(6,none)] [(0,[0,1,2]),(1,[1,2,3]),(2,[1,2,3,7]),(3,[8])]),
 (28,.code aU [.val,.val] [] [(4,none),(5,none)] [(0,[0,1]),(1,[0,1]),(2,[0,1,6,7]),(3,[0,1,6,7,8]),(4,[0,1,6,7,8,25,26,27]),(5,[0,1,6,7,8,25,26,27]),(6,[0,1,6,7,8,9,10,25,26,27]),(7,[0,1,6,7,8,10,25,26,27]),(8,[0,1,6,7,8,10,11,25,26,27]),(9,[0,1,6,7,8,10,11,13,14,25,26,27]),(10,[0,1,6,7,8,11,13,14,25,26,27,58,59,60]),(11,[0,1,6,7,8,11,13,14,25,26,27,58,59,60]),(12,[0,1,6,7,8,11,13,14,16,17,25,26,27,58,59,60]),(13,[0,1,6,7,8,11,13,14,16,18,25,26,27,58,59,60]),(14,[0,1,6,7,8,11,13,14,16,18,25,26,27,58,59,60]),(15,[0,1,6,7,8,11,13,14,25,26,27,58,59,60]),(16,[0,1,6,7,8,25,26,27]),(17,[6,7]),(1000004,[6,7]),(1000010,[0,1,6,7,8,25,26,27,86,87])]),
 (29,.code iN [.val,.val,.val] [] [(6,none)] [(0,[0,1,2]),(1,[0,1,2])]),
 (30,.code gB [.val,.val] [] [(4,none)] [(0,[0,1]),(1,[0,1])]),
 (31,.code fL [.val,.val] [] [(4,none)] [(0,[0,1]),(1,[0,1])]),
 (32,.code fN [.val] [] [(2,none)] [(0,[0]),(1,[0])]),
 (33,.code bj [.val] [] [(2,some (true,2))] [(0,[0]),(1,[1,2]),(2,[1,2,3]),(3,[1,2,3,9,10,11]),(4,[1,2,3,9,10,11]),(5,[1,2,3,5,9,10,11]),(6,[1,2,3,5,9,10,11]),(7,[1,2,3,9,10,11]),(8,[1,2,3]),(9,[1,2,3,27,28,29]),(10,[1,2,3,27,28,29]),(11,[1,2,3,7,27,28,29]),(12,[1,2,3,7,27,28,29]),(13,[1,2,3,27,28,29]),(14,[2,3]),(1000003,[1,2,3,43]),(1000009,[2,3])]),
 (34,.code gu [.val] [] [(2,none)] [(0,[0]),(1,[0])]),
 (35,.sem [.io,.val,.io] (Qr [.leaf,.leaf,.sl .own [.leaf]])),
 (36,.code iI [.io] [1] [(2,some (true,2)),(3,none)] [(0,[0]),(1,[1,2]),(2,[1,2]),(3,[1,2])]),
 (37,.code aF [.val] [] [(2,none)] [(0,[0]),(1,[0]),(2,[0,3]),(3,[]),(4,[0,3]),(5,[0,3,27,28]),(6,[0,3,27,28]),(7,[0,3,4,27,28]),(8,[0,3,4,5,27,28]),(9,[]),(10,[0,3,27,28]),(11,[0,3]),(12,[0,3,60,61]),(13,[0,3,60,61]),(14,[0,3,6,60,61]),(15,[]),(16,[0,3,60,61]),(17,[]),(1000005,[0,2,3,100]),(1000012,[2])]),
 (38,.code iQ [.val,.val,.val] [] [(6,none)] [(0,[0,1,2]),(1,[0,1,2])]),
 (39,.code bt [.val] [] [(2,some (true,2))] [(0,[0]),(1,[0,2]),(2,[0,2,3]),(3,[0,2,3,14,15]),(4,[0,2,3,14,15]),(5,[0,2,3,4,14,15]),(6,[0,2,3,14,15]),(7,[0,2,3]),(8,[0,2,3,35,36]),(9,[0,2,3,35,36]),(10,[0,2,3,5,35,36]),(11,[0,2,3,6,35,36]),(12,[0,2,3,6,35,36]),(13,[0,2,3,35,36]),(14,[2,3]),(1000003,[0,2,3,56]),(1000008,[2,3])]),
 (40,.code fj [.val] [] [(2,none)] [(0,[0]),(1,[0])]),
 (44,.code gF [.val,.io] [1] [(4,some (true,5))] [(0,[0,1]),(1,[0,1,4])]),
 (58,.code fP [.iop,.val] [0] [(4,none)] [(0,[0,1]),(1,[0,1]),(2,[0]),(3,[0,1]),(4,[0,1,5]),(5,[0,1,5]),(6,[0,1,5])]),
 (59,.code gv [.iop,.val] [0] [(4,none)] [(0,[0,1]),(1,[0,1])]),
 (60,.code dN [.iop] [0] [(2,none)] [(0,[0]),(1,[0]),(2,[0,3]),(3,[0,3,4]),(4,[0,3]),(5,[0,3,4]),(6,[0,3,4]),(7,[0,3,4]),(8,[0,3]),(1000005,[0,3])]),
 (61,.code dt [.iop,.val] [0] [(4,none)] [(0,[0,1]),(1,[0,1]),(2,[0,1,5]),(3,[0,1,5,6]),(4,[0,1,5,6]),(5,[0,1,5,6]),(6,[0,1,5,6]),(7,[0,1,5,6]),(8,[0,5]),(1000003,[0,5])]),
 (62,.code fK [.val] [] [(2,none)] [(0,[0]),(1,[0])]),
 (63,.code eW [.val] [] [(2,none)] [(0,[0]),(1,[0]),(2,[]),(3,[0]),(4,[0,8,9,10]),(5,[0,8,9,10]),(6,[0,4,8,9,10]),(7,[]),(8,[0,8,9,10]),(9,[]),(1000004,[2])]),
 (64,.code gp [.val] [] [(2,none)] [(0,[0]),(1,[0])]),
 (65,.code iK [.val] [] [(2,none)] [(0,[0]),(1,[0])]),
 (66,.code ia [.val] [] [(2,none)] [(0,[0]),(1,[0])]),
 (67,.code dk [.val,.val,.val] [] [(6,none),(7,none)] [(0,[0,1,2]),(1,[0,1,2]),(2,[0,1,8]),(3,[0,1,8,9]),(4,[0,1,8,9,16,17,18]),(5,[0,1,8,9,16,17,18]),(6,[0,1,8,9,10,11,16,17,18]),(7,[0,1,9,12,13,16,17,18]),(8,[0,1,8,9,13,16,17,18]),(9,[0,1,8,9,16,17,18]),(10,[8,9]),(1000004,[8,9])]),
 (68,.code eB [.val] [] [(2,none)] [(0,[0]),(1,[0]),(2,[0,3]),(3,[0,3,6,7,8]),(4,[0,3,6,7,8]),(5,[0,3,5,6,7,8]),(6,[0,3,6,7,8]),(7,[3]),(1000003,[3])]),
 (69,.code aJ [.val,.val,.val,.val] [] [(8,none)] [(0,[0,1,2,3]),(1,[1,2,3,4]),(2,[1,2,3,4,9]),(3,[1,2,3,4,9,18,19,20]),(4,[1,2,3,4,9,18,19,20]),(5,[1,2,3,4,9,11,18,19,20]),(6,[1,2,3,4,9,11,18,19,20]),(7,[1,2,3,4,9,11,18,19,20,29,30,31]),(8,[1,2,3,4,9,11,18,19,20,29,30,31]),(9,[1,2,3,4,9,11,12,13,18,19,20,29,30,31]),(10,[1,2,3,4,9,11,13,14,18,19,20,29,30,31]),(11,[1,2,3,4,9,11,13,14,18,19,20,29,30,31]),(12,[1,2,3,4,9,11,18,19,20,29,30,31]),(13,[1,2,3,4,9,18,19,20]),(14,[9]),(1000003,[9]),(1000007,[1,2,3,4,9,18,19,20,53,54])]),
 (70,.code gH [.val] [] [(2,none)] [(0,[0]),(1,[0])]),
 (71,.code dO [.val] [] [(2,none)] [(0,[0]),(1,[0]),(2,[0,3,4]),(3,[0,3,4,7,8,9]),(4,[0,3,4,7,8,9]),(5,[0,3,4,6,7,8,9]),(6,[0,3,4,7,8,9]),(7,[3,4]),(1000003,[3,4])]),
 (72,.code gb [.val] [] [(2,none),(3,none)] [(0,[0]),(1,[0]),(2,[]),(3,[0])]),
 (73,.code ge [.val] [] [(2,none),(3,none),(4,none)] [(0,[0]),(1,[0]),(2,[]),(3,[0])]),
 (74,.code gW [.val,.val] [] [(4,none)] [(0,[0,1]),(1,[0,1])]),
 (75,.code db [.val] [] [(2,none)] [(0,[0]),(1,[0]),(2,[0,3]),(3,[0,3,6,7,8]),(4,[0,3,6,7,8]),(5,[0,3,5,6,7,8]),(6,[0,3,5,6,7,8]),(7,[0,3,6,7,8]),(8,[3]),(1000003,[3])]),
 (78,.code eK [.val] [] [(2,none)] [(0,[0]),(1,[0]),(2,[0,3]),(3,[0,3]),(4,[0,3]),(5,[]),(6,[0]),(1000002,[0,2])]),
 (79,.code eg [.val] [] [(2,none)] [(0,[0]),(1,[0]),(2,[0,5,6]),(3,[0,5,6]),(4,[0,3,5,6]),(5,[]),(6,[0,5,6]),(7,[0]),(1000002,[0,2])]),
 (80,.code gQ [.val] [] [(2,none)] [(0,[0]),(1,[0])]),
 (81,.code gD [.val] [] [(2,some (true,3))] [(0,[0]),(1,[0,2])]),
 (82,.code eR [.val] [] [(2,none)] [(0,[0]),(1,[0]),(2,[0,3]),(3,[0,3,8,9]),(4,[0,3,8,9]),(5,[0,3,4,8,9]),(6,[0,3,5,8,9]),(7,[0,3,5,8,9]),(8,[0,3,8,9]),(9,[3]),(1000003,[3])]),
 (93,.code iD [.val,.val] [] [(4,none),(5,none)] [(0,[0,1]),(1,[0,1]),(2,[0,1,6]),(3,[0,1,6]),(4,[]),(5,[0,1,6]),(6,[]),(7,[0,1,6]),(8,[1]),(9,[0,1,6]),(10,[]),(11,[0,1,6]),(12,[]),(13,[0,1,6]),(14,[1]),(15,[])]),
 (95,.code fH [.iop] [0] [(2,none)] [(0,[0]),(1,[0]),(2,[0,3]),(3,[0]),(4,[0,3]),(5,[0,3]),(6,[0,3]),(7,[0,3]),(8,[0])]),
 (96,.code fR [.iop] [0] [(2,some (true,3))] [(0,[0]),(1,[0,2]),(2,[0,2,3]),(3,[0,2,3,11]),(4,[0,2,3,11]),(5,[0,2,3]),(6,[0,2,3,11]),(7,[0,2,3]),(8,[0,2,3,4]),(9,[0,2,3,11]),(10,[0,2,3]),(11,[0,2,3]),(12,[0,2,3]),(13,[0,2,3,11]),(14,[0,2,3]),(15,[0,2,3,5]),(16,[0,2,3,11]),(17,[0,2,3]),(18,[0,2,3]),(19,[0,2,3]),(20,[0,2,3])]),
 (97,.code gl [.iop] [0] [(2,none)] [(0,[0]),(1,[0]),(2,[0]),(3,[0]),(4,[0,10]),(5,[0]),(6,[0,10]),(7,[0]),(8,[0,3]),(9,[0,10]),(10,[0]),(11,[0])]),
 (98,.code fQ [.iop] [0] [(2,none)] [(0,[0]),(1,[0]),(2,[0,3]),(3,[0,3]),(4,[0,3])]),
 (99,.code fS [.val] [] [(2,none)] [(0,[0]),(1,[1]),(2,[1,4]),(3,[1,4]),(4,[1]),(5,[1,4]),(6,[1]),(7,[1,4]),(8,[1]),(9,[1,4]),(10,[1]),(11,[1,4]),(12,[1]),(13,[1,4]),(14,[1]),(15,[])]),
 (100,.code Tf [.val,.val,.val] [] [(6,none),(7,none)] [(0,[0,1,2]),(1,[1,2,3]),(2,[1,2,3,8]),(3,[1,2,3,8,31]),(4,[2,8]),(5,[1,2,3,8,31]),(6,[1,2,8]),(7,[1,2,9]),(8,[10,11]),(9,[1,2,3,8,31]),(10,[1,2,8]),(11,[2,8,12]),(12,[2,8,12,13]),(13,[2,8,12,13,80,81,82]),(14,[2,8,12,13,80,81,82]),(15,[2,8,12,13,15,80,81,82]),(16,[2,8,12,13,15,16,80,81,82]),(17,[2,8,12,13,15,16,80,81,82]),(18,[2,8,12,13,80,81,82]),(19,[12,13]),(20,[1,2,3,8,31]),(21,[1,2,8]),(22,[2,17]),(23,[17,18]),(24,[1,2,3,8,31]),(25,[2,8]),(26,[20]),(27,[1,2,3,8,31]),(28,[2]),(29,[2,22]),(30,[2,22,156,157,158]),(31,[2,22,156,157,158]),(32,[2,22,24,156,157,158]),(33,[2,22,156,157,158]),(34,[22]),(35,[1,2,8]),(36,[25,26]),(1000013,[12,13]),(1000030,[22])]),
 (101,.code bQ [.val] [] [(2,none)] [(0,[0]),(1,[1]),(2,[1,4]),(3,[]),(4,[1,4]),(5,[1]),(6,[1,4]),(7,[]),(8,[1,4]),(9,[1]),(10,[])]),
 (102,.code YQ [.val,.val] [] [(4,none)] [(0,[0,1]),(1,[0,1]),(2,[0,1,5]),(3,[0,1,5,6]),(4,[0,1,5,6,11,12,13]),(5,[0,1,5,6,11,12,13]),(6,[0,1,5,6,7,8,11,12,13]),(7,[0,1,5,6,11,12,13]),(8,[6]),(1000004,[6])]),
 (103,.code T5 [.val] [] [(2,none)] [(0,[0]),(1,[0]),(2,[]),(3,[0]),(4,[]),(5,[0]),(6,[3,4]),(7,[3,4,5]),(8,[3,4,5]),(9,[3,4,5]),(10,[4]),(11,[4,6]),(12,[4,6]),(13,[4,6]),(14,[4]),(1000007,[4]),(1000011,[4])]),
 (104,.code aO [.val] [] [(2,none)] [(0,[0]),(1,[0]),(2,[3]),(3,[]),(4,[3]),(5,[]),(6,[3])]),
 (105,.code bH [.val] [] [(2,none)] [(0,[0]),(1,[0]),(2,[]),(3,[0])]),
 (107,.code aR [.val] [] [(2,none)] [(0,[0]),(1,[0]),(2,[0,3]),(3,[0,3,4]),(4,[0]),(5,[0,3]),(6,[0,3,4]),(7,[0,3]),(8,[0,3,4]),(9,[]),(10,[0]),(11,[0,5])]),
 (108,.code bZ [.val] [] [(2,none)] [(0,[0]),(1,[0])]),
 (124,.code bu [.iop] [0] [(2,none)] [(0,[0]),(1,[0]),(2,[0]),(3,[0])]),
 (125,.code bC [.iop] [0] [(2,some (true,5))] [(0,[0]),(1,[0,2]),(2,[0,2,3]),(3,[0,2,3]),(4,[0,2,3]),(5,[0,2,3]),(6,[0,2,3]),(7,[0,2,3]),(8,[0,2,3]),(9,[0,2,3]),(10,[0,2,3])]),
 (126,.code ai [.iop] [0] [(2,some (true,5))] [(0,[0]),(1,[0,2]),(2,[0,2,3]),(3,[0,2,3]),(4,[0,2,3]),(5,[0,2,3]),(6,[0,2,3])]),
 (127,.code ax [.val] [] [(2,none)] [(0,[0]),(1,[0])]),
 (128,.code cB [.iop,.io] [0,1] [(4,none)] [(0,[0,1]),(1,[0,1])]),
 (129,.code bN [.val,.val,.val,.val] [] [(8,none)] [(0,[0,1,2,3]),(1,[1,2,3,4])]),
 (130,.code ba [.val] [] [(2,none)] [(0,[0]),(1,[0])]),
 (131,.code Xa [.val,.val] [] [(4,none)] [(0,[0,1]),(1,[0,1]),(2,[0,1,5]),(3,[0,1,5,8,9,10]),(4,[0,1,5,8,9,10]),(5,[0,1,5,7,8,9,10]),(6,[0,1,5,8,9,10]),(7,[5]),(1000003,[5])]),
 (132,.code Wz [.val,.val,.val,.val,.val] [] [(10,none),(11,some (true,4))] [(0,[0,1,2,3,4]),(1,[1,2,4,5,8,11]),(2,[1,2,4,5,8,11,12]),(3,[1,2,4,5,8,11,12,17,18,19]),(4,[1,2,4,5,8,11,12,17,18,19]),(5,[1,2,4,5,8,11,12,14,17,18,19]),(6,[1,2,4,5,8,11,12,15,16,17,18,19]),(7,[1,2,4,5,8,11,12,15,17,18,19]),(8,[1,2,4,5,8,11,12,17,18,19]),(9,[8,11,12]),(1000003,[8,11,12])]),
 (133,.code Z3 [.val,.val] [] [(4,none)] [(0,[0,1]),(1,[0,1])]),
 (134,.code bV [.val] [] [(2,none)] [(0,[0]),(1,[0]),(2,[0]),(3,[0])]),
 (135,.code bI [.val,.val] [] [(4,none),(5,some (true,5)),(6,none)] [(0,[0,1]),(1,[1,2,5])]),
 (136,.code WY [.val,.val] [] [(4,none),(5,none)] [(0,[0,1]),(1,[0,1]),(2,[]),(3,[0,1]),(4,[0,1,6]),(5,[0,1,6,12,13,14]),(6,[0,1,6,12,13,14]),(7,[0,1,6,8,12,13,14]),(8,[0,1,6,12,13,14]),(9,[6]),(1000005,[6])]),
 (137,.code aS [.val] [] [(2,none)] [(0,[0]),(1,[0]),(2,[]),(3,[0]),(4,[]),(5,[0])]),
 (138,.code WW [.val,.val] [] [(4,none),(5,some (true,4)),(6,none)] [(0,[0,1]),(1,[1,2,5]),(2,[5]),(3,[1,2,5]),(4,[1,2,5]),(5,[1,2,5,7,1000000002]),(6,[1,2,5,7,34,35,36,1000000002]),(7,[1,2,5,7,34,35,36,1000000002]),(8,[1,2,5,7,9,34,35,36,1000000002]),(9,[1,2,5,7,10,34,35,36,1000000010,1000000002]),(10,[1,2,5,7,10,11,34,35,36,1000000010,1000000002]),(11,[1,2,5,7,10,11,12,34,35,36,1000000010,1000000002]),(12,[1,2,5,7,10,12,34,35,36,1000000010,1000000002]),(13,[1,2,5,7,10,11,34,35,36,1000000010,1000000002]),(14,[1,2,5,7,10,11,13,34,35,36,1000000010,1000000002]),(15,[1,2,5,7,10,11,34,35,36,1000000010,1000000002]),(16,[1,2,5,7,10,13,34,35,36,1000000010,1000000002]),(17,[1,2,5,7,10,13,34,35,36,1000000010,1000000002]),(18,[1,2,5,7,10,13,34,35,36,1000000010,1000000002]),(19,[1,2,5,7,34,35,36,1000000002]),(20,[2,5,7]),(21,[2,5,7]),(1000006,[2,5,7,1000000002])]),
 (139,.code aX [.val,.val] [] [(4,none)] [(0,[0,1]),(1,[0,1])]),
 (140,.code aY [.val] [] [(2,none)] [(0,[0]),(1,[0]),(2,[0]),(3,[]),(4,[]),(5,[3])]),
 (141,.code bY [.val] [] [(2,none)] [(0,[0]),(1,[0])]),
 (142,.code bP [] [] [(0,none)] [(0,[]),(1,[])]),
 (143,.code bS [.val] [] [(2,none)] [(0,[0]),(1,[0])]),
 (144,.code Wt [.val] [] [(2,none)] [(0,[0]),(1,[0]),(2,[3]),(3,[3,4]),(4,[3,4]),(5,[3,4]),(6,[3,4]),(7,[3,4]),(8,[4,5]),(9,[4,5,6]),(10,[4,5,6,7]),(11,[4,5,6,7,8]),(12,[4,5,6,7,8]),(13,[4,5,6,7,8]),(14,[4,5,7]),(15,[5,7]),(16,[5,7]),(1000011,[4,5,7])]),
 (145,.ext (F1)),
 (147,.code aI [.val] [] [(2,none)] [(0,[0]),(1,[0])]),
 (157,.code cA [.iop] [0] [(2,none)] [(0,[0]),(1,[0]),(2,[0]),(3,[0]),(4,[0]),(5,[0])]),
 (158,.code Z5 [.iop] [0] [(2,some (true,3))] [(0,[0]),(1,[0,2]),(2,[0,2,3]),(3,[0,2,3]),(4,[0,2,3]),(5,[0,2,3])]),
 (159,.ext (Ct)),
 (160,.code Z7 [.val] [] [(2,none)] [(0,[0]),(1,[0])]),
 (161,.code bz [.val,.val,.val,.val,.val] [] [(10,none),(11,some (true,4))] [(0,[0,1,2,3,4]),(1,[1,2,4,5,8,11]),(2,[1,2,4,5,8,11]),(3,[2,4,5,8,11]),(4,[2,5,8,11,13]),(5,[2,8,11,12,13]),(6,[1,2,4,5,8,11,14]),(7,[2,4,5,8,11]),(8,[2,4,8,11,12]),(9,[2,4,8,11,12]),(10,[1,2,4,5,8,11,14]),(11,[2,4,5,8,11]),(12,[2,4,5,8,11,12]),(13,[2,8,11,12])]),
 (162,.code Z4 [.val] [] [(2,none)] [(0,[0]),(1,[0])]),
 (163,.ext (D1)),
 (164,.code Xp [.val,.val,.val] [] [(6,none),(7,some (true,5)),(8,none)] [(0,[0,1,2]),(1,[1,2,3,7]),(2,[7]),(3,[1,2,3,7]),(4,[1,2,3,7,9]),(5,[1,2,3,7,9,23,24,25]),(6,[1,2,3,7,9,23,24,25]),(7,[1,2,3,7,9,10,11,23,24,25]),(8,[1,2,3,7,9,11,23,24,25]),(9,[1,2,3,7,9,23,24,25]),(10,[3,7,9]),(1000005,[3,7,9])]),
 (165,.code bK [.val,.val] [] [(4,none)] [(0,[0,1]),(1,[0,1]),(2,[0]),(3,[0,1]),(4,[1]),(5,[1])]),
 (166,.code Wf [.val] [] [(2,none)] [(0,[0]),(1,[0]),(2,[0,3]),(3,[0,3,7,8,9]),(4,[0,3,7,8,9]),(5,[0,3,5,7,8,9]),(6,[0,3,6,7,8,9]),(7,[0,6,7,8,9]),(8,[0,3,7,8,9]),(9,[3]),(1000003,[3])]),
 (167,.code XS [.val,.val] [] [(4,none)] [(0,[0,1]),(1,[0,1]),(2,[0,1,7,8]),(3,[0,1,7,8]),(4,[0,1,5,7,8]),(5,[5]),(6,[0,1,7,8]),(7,[]),(1000002,[4])]),
 (168,.ext (BR)),
 (169,.ext (Rk)),
 (170,.code cD [.val] [] [(2,none)] [(0,[0]),(1,[0]),(2,[0,3]),(3,[0]),(4,[0,3]),(5,[4]),(6,[4]),(7,[4])]),
 (171,.code bn [.val] [] [(2,none)] [(0,[0]),(1,[0])]),
 (173,.code af [.val,.val] [] [(4,none)] [(0,[0,1]),(1,[0,1]),(2,[0]),(3,[0])]),
 (174,.ext (DH)),
 (175,.code az [.iop,.val] [0] [] [(0,[0,1]),(1,[0,4]),(2,[0,4,5]),(3,[0,4]),(4,[0,4,5])]),
 (176,.code aT [.val,.val,.val] [] [(6,none)] [(0,[0,1,2]),(1,[0,1,2]),(2,[]),(3,[0,1,2])]),
 (177,.code bm [.val] [] [(2,none)] [(0,[0]),(1,[0])]),
 (178,.code cE [.val] [] [(2,none)] [(0,[0]),(1,[0]),(2,[0])]),
 (179,.ext (DQ .zero)),
 (180,.code ce [.val] [] [(2,none)] [(0,[0]),(1,[0]),(2,[0]),(3,[0]),(4,[3]),(5,[3,4]),(6,[3,4]),(7,[3])])]
def E:Av:=⟨fun t=>MD L7 t,HA E0⟩
def D6 (n:Nat):FD:=match HA E0 n with
 | some d=>d
 | none => .ext fun _=>none
def FF (n:Nat):List (Nat × List Nat):=match HA E0 n with
 | some d=>d.keep
 | none=>[]
theorem tysOk:Cx Tryz.prog E:=Mj (l:=L7) (fun _=>rfl) (by kernel_rfl)
abbrev FT (f:Nat):Prop:=Cb Tryz.prog E f (D6 f)
theorem Bs {f : Nat} {fn : Func} (c : Code) (hf : Tryz.prog.funcs[f]? = some fn) (hn : (fn.name == "runtime.NumGoroutine") = false := by kernel_rfl) (hb : fn.body = some c := by kernel_rfl) (h : UZ E fn c (D6 f).ms (D6 f).os (D6 f).rs = true := by kernel_rfl) (hd : D6 f = .code c (D6 f).ms (D6 f).os (D6 f).rs (D6 f).keep := by kernel_rfl) : FT f := by unfold FT; rw [hd]; exact Js hf hn hb h
theorem jI:FT 3:=Bs c3 Tryz.func3
theorem jJ:FT 6:=Bs c6 Tryz.func6
theorem jC:FT 7:=Bs c7 Tryz.func7
theorem jF:FT 8:=Bs c8 Tryz.func8
theorem jK:FT 9:=Bs c9 Tryz.func9
theorem fU:FT 10:=Bs iX Tryz.func10
theorem fh:FT 11:=Bs dw Tryz.func11
theorem gx:FT 12:=Bs gO Tryz.func12
theorem fY:FT 13:=Bs gP Tryz.func13
theorem gJ:FT 23:=Bs c23 Tryz.func23
theorem gX:FT 24:=Bs ae Tryz.func24
theorem iF:FT 25:=Bs an Tryz.func25
theorem gI:FT 26:=Bs iM Tryz.func26
theorem fM:FT 27:=Bs ie Tryz.func27
theorem ff:FT 28:=Bs aU Tryz.func28
theorem gR:FT 29:=Bs iN Tryz.func29
theorem gr:FT 30:=Bs gB Tryz.func30
theorem iV:FT 31:=Bs fL Tryz.func31
theorem fX:FT 32:=Bs fN Tryz.func32
theorem ii:FT 33:=Bs bj Tryz.func33
theorem gG:FT 34:=Bs gu Tryz.func34
theorem hZ:Cb Tryz.prog E 35 (.sem [.io,.val,.io] (Qr [.leaf,.leaf,.sl .own [.leaf]])):=DS.ok35
theorem hJ:FT 36:=Bs iI Tryz.func36
theorem iO:FT 37:=Bs aF Tryz.func37
theorem ig:FT 38:=Bs iQ Tryz.func38
theorem ga:FT 39:=Bs bt Tryz.func39
theorem fw:FT 40:=Bs fj Tryz.func40
theorem iL:FT 44:=Bs gF Tryz.func44
theorem fq:FT 58:=Bs fP Tryz.func58
theorem fV:FT 59:=Bs gv Tryz.func59
theorem gL:FT 60:=Bs dN Tryz.func60
theorem iA:FT 61:=Bs dt Tryz.func61
theorem gk:FT 62:=Bs fK Tryz.func62
theorem gM:FT 63:=Bs eW Tryz.func63
theorem gj:FT 64:=Bs gp Tryz.func64
theorem ib:FT 65:=Bs iK Tryz.func65
theorem iJ:FT 66:=Bs ia Tryz.func66
theorem gN:FT 67:=Bs dk Tryz.func67
theorem iW:FT 68:=Bs eB Tryz.func68
theorem gZ:FT 69:=Bs aJ Tryz.func69
theorem gh:FT 70:=Bs gH Tryz.func70
theorem fZ:FT 71:=Bs dO Tryz.func71
theorem iE:FT 72:=Bs gb Tryz.func72
theorem gA:FT 73:=Bs ge Tryz.func73
theorem iH:FT 74:=Bs gW Tryz.func74
theorem iC:FT 75:=Bs db Tryz.func75
theorem iB:FT 78:=Bs eK Tryz.func78
theorem gK:FT 79:=Bs eg Tryz.func79
theorem gy:FT 80:=Bs gQ Tryz.func80
theorem fy:FT 81:=Bs gD Tryz.func81
theorem fW:FT 82:=Bs eR Tryz.func82
theorem gU:FT 93:=Bs iD Tryz.func93
theorem gz:FT 95:=Bs fH Tryz.func95
theorem ic:FT 96:=Bs fR Tryz.func96
theorem gw:FT 97:=Bs gl Tryz.func97
theorem fO:FT 98:=Bs fQ Tryz.func98
theorem il:FT 99:=Bs fS Tryz.func99
theorem cO:FT 100:=Bs Tf Tryz.func100
theorem eo:FT 101:=Bs bQ Tryz.func101
theorem cW:FT 102:=Bs YQ Tryz.func102
theorem eY:FT 103:=Bs T5 Tryz.func103
theorem dy:FT 104:=Bs aO Tryz.func104
theorem eI:FT 105:=Bs bH Tryz.func105
theorem eC:FT 107:=Bs aR Tryz.func107
theorem dj:FT 108:=Bs bZ Tryz.func108
theorem cq:FT 124:=Bs bu Tryz.func124
theorem cd:FT 125:=Bs bC Tryz.func125
theorem co:FT 126:=Bs ai Tryz.func126
theorem cw:FT 127:=Bs ax Tryz.func127
theorem cS:FT 128:=Bs cB Tryz.func128
theorem di:FT 129:=Bs bN Tryz.func129
theorem dP:FT 130:=Bs ba Tryz.func130
theorem cr:FT 131:=Bs Xa Tryz.func131
theorem dA:FT 132:=Bs Wz Tryz.func132
theorem cz:FT 133:=Bs Z3 Tryz.func133
theorem eJ:FT 134:=Bs bV Tryz.func134
theorem cp:FT 135:=Bs bI Tryz.func135
theorem dZ:FT 136:=Bs WY Tryz.func136
theorem cV:FT 137:=Bs aS Tryz.func137
theorem cU:FT 138:=Bs WW Tryz.func138
theorem eX:FT 139:=Bs aX Tryz.func139
theorem da:FT 140:=Bs aY Tryz.func140
theorem dG:FT 141:=Bs bY Tryz.func141
theorem ct:FT 142:=Bs bP Tryz.func142
theorem d5:FT 143:=Bs bS Tryz.func143
theorem cP:FT 144:=Bs Wt Tryz.func144
theorem eh:Cb Tryz.prog E 145 (.ext (F1)):=QA Tryz.func145 (by kernel_rfl) (by kernel_rfl) (by kernel_rfl) (by kernel_rfl)
theorem ek:FT 147:=Bs aI Tryz.func147
theorem eG:FT 157:=Bs cA Tryz.func157
theorem dg:FT 158:=Bs Z5 Tryz.func158
theorem dJ:Cb Tryz.prog E 159 (.ext (Ct)):=Le Tryz.func159 (by kernel_rfl) (by kernel_rfl) (by kernel_rfl) (by kernel_rfl)
theorem eQ:FT 160:=Bs Z7 Tryz.func160
theorem eU:FT 161:=Bs bz Tryz.func161
theorem cg:FT 162:=Bs Z4 Tryz.func162
theorem W6:Cb Tryz.prog E 163 (.ext (D1)):=DC.signOk
theorem cu:FT 164:=Bs Xp Tryz.func164
theorem dL:FT 165:=Bs bK Tryz.func165
theorem ej:FT 166:=Bs Wf Tryz.func166
theorem dm:FT 167:=Bs XS Tryz.func167
theorem SX:Cb Tryz.prog E 168 (.ext (BR)):=Ee Tryz.func168 (by kernel_rfl) (by kernel_rfl) (by kernel_rfl) (by kernel_rfl)
theorem Xy:Cb Tryz.prog E 169 (.ext (Rk)):=DA.absOk
theorem du:FT 170:=Bs cD Tryz.func170
theorem dD:FT 171:=Bs bn Tryz.func171
theorem dK:FT 173:=Bs af Tryz.func173
theorem RX:Cb Tryz.prog E 174 (.ext (DH)):=Hj Tryz.func174 (by kernel_rfl) (by kernel_rfl) (by kernel_rfl) (by kernel_rfl)
theorem cj:FT 175:=Bs az Tryz.func175
theorem eH:FT 176:=Bs aT Tryz.func176
theorem dr:FT 177:=Bs bm Tryz.func177
theorem dX:FT 178:=Bs cE Tryz.func178
theorem eS:Cb Tryz.prog E 179 (.ext (DQ .zero)):=Jx Tryz.func179 (by kernel_rfl) (by kernel_rfl) (by kernel_rfl) (by kernel_rfl)
theorem eN:FT 180:=Bs ce Tryz.func180
theorem Nr:Jg Tryz.prog E E0:=.cons jI (.cons jJ (.cons jC (.cons jF (.cons jK (.cons fU (.cons fh (.cons gx (.cons fY (.cons gJ (.cons gX (.cons iF (.cons gI (.cons fM (.cons ff (.cons gR (.cons gr (.cons iV (.cons fX (.cons ii (.cons gG (.cons hZ (.cons hJ (.cons iO (.cons ig (.cons ga (.cons fw (.cons iL (.cons fq (.cons fV (.cons gL (.cons iA (.cons gk (.cons gM (.cons gj (.cons ib (.cons iJ (.cons gN (.cons iW (.cons gZ (.cons gh (.cons fZ (.cons iE (.cons gA (.cons iH (.cons iC (.cons iB (.cons gK (.cons gy (.cons fy (.cons fW (.cons gU (.cons gz (.cons ic (.cons gw (.cons fO (.cons il (.cons cO (.cons eo (.cons cW (.cons eY (.cons dy (.cons eI (.cons eC (.cons dj (.cons cq (.cons cd (.cons co (.cons cw (.cons cS (.cons di (.cons dP (.cons cr (.cons dA (.cons cz (.cons eJ (.cons cp (.cons dZ (.cons cV (.cons cU (.cons eX (.cons da (.cons dG (.cons ct (.cons d5 (.cons cP (.cons eh (.cons ek (.cons eG (.cons dg (.cons dJ (.cons eQ (.cons eU (.cons cg (.cons W6 (.cons cu (.cons dL (.cons ej (.cons dm (.cons SX (.cons Xy (.cons du (.cons dD (.cons dK (.cons RX (.cons cj (.cons eH (.cons dr (.cons dX (.cons eS (.cons eN (.nil)))))))))))))))))))))))))))))))))))))))))))))))))))))))))))))))))))))))))))))))))))))))))))))))))))))))))))))))
theorem fnOk:∀ f fd,E.fn f=some fd→Cb Tryz.prog E f fd:=OD (l:=E0) (fun _=>rfl) Nr
abbrev Bu {V X:Type} (no:Nat) (P:List Aa) (S:B4 V) (A:AZ X) (F:Nat→V→Option X):Prop:=∀ n v x,F n v=some x→Ab E n no (Gg P (S.pk v))=some (A.enc x)
theorem Bv {V X:Type} {no:Nat} {P:List Aa} {S:B4 V} {A:AZ X} {F:Nat→V→Option X} (c:Code) (O:Nat→BF) (bs:List Code:=[]) (ha:∀ n,PI (O n) E (Ab E n) n (FF no) bs:=by intro _;exact .nil) (hf:E.fn no=some (.code c (D6 no).ms (D6 no).os (D6 no).rs (FF no)):=by kernel_rfl) (hO:∀ n,(O n).CfOk (Ab E n):=by intro n;exact KO _ _ n) (hb:CD c=bs:=by kernel_rfl) (h0:∀ v,F 0 v=none:=by intro _;rfl) (hs:∀ n v,F (n+1) v=eu E (O n) no (Gg P (S.pk v)) A.dec:=by intro _ _;kernel_rfl):Bu no P S A F:=QB O hf hO (fun n=>MW hb (ha n)) h0 hs
abbrev HO (no:Nat) (c:Code) (i n:Nat) (O:BF):Prop:=JB O E (Ab E n) n (FF no) (.loop (Ap c i))
theorem Hi {V X:Type} {no i:Nat} {c:Code} {O:Nat→BF} (P:AS) (S:B4 V) (A:Fy X) (L:Nat→Nat→V→Option X) (bs:List Code:=[]) (ha:∀ n,PI (O n) E (Ab E n) n (FF no) bs:=by intro _;exact .nil) (hO:∀ n,(O n).CfOk (Ab E n):=by intro n;exact KO _ _ n) (hb:CD (Ap c i)=bs:=by kernel_rfl) (h0:∀ n v,L n 0 v=none:=by intro _ _;rfl)
  (hs:∀ n m v,L n (m+1) v=F4 E (O n) (FF no) (Ap c i) (U4 P (S.pk v)) (fun ex σ'=>match ex with
    | .normal=>bd (O1 P (Go.Desk.settle (Bq (FF no) (CI (Ap c i))) σ')) fun ls=>bd (S.up ls) (L n m)
    | .exit id=>A.dec (.exit id) (Go.Desk.settle (Bq (FF no) (KQ (Ap c i))) σ')
    | .ret=>A.dec .ret (Go.Desk.settle (Bq (FF no) (KQ (Ap c i))) σ')):=by intro _ _ _;kernel_rfl)
  (hW:∀ n (β:Type) (σ:AS) (k:Ex→AS→Option β),(O n).lp (Zq (Ap c i)) σ k=bd (O1 P σ) fun ls=>bd (S.up ls) fun v=>bd (L n n v) fun x=>A.out x k:=by intro _ _ _ _;kernel_rfl):∀ n,HO no c i n (O n):=fun n=>ZM P S A (L n) (hO n) (MW hb (ha n)) (h0 n) (hs n) (hW n)
end Go.Proofs.YtokonabdnlckdaaGreat.D
end
noncomputable section
namespace Go.Proofs.YtokonabdnlckdaaGreat.D
open Go Go.Desk
abbrev ip:=Int × Bool × Nat × List T × Nat × Nat × Nat × Nat × Nat × Nat × Nat × Nat × Nat × Nat × Nat × Nat × Nat × Nat × List T × Nat × List T × Int × Int
abbrev it:=Int × Int × Int × Nat × List T × Nat × List T × Nat × List T × Int × Int × Nat × List T × Nat × List T × Int × Int × Nat × List T × Int × Int
abbrev iq:=Nat × List T × Int × Nat × List T × Nat × List T × Nat × List T × Nat × Nat × Nat × Nat × List T × Int × Int × Nat × List T × Int × Int
abbrev ir:=Nat × List T × Nat × List T × Nat × Nat × Nat × Nat × Nat × Nat × Nat × Nat × Nat × Nat × Nat × List T × Nat × List T × Int × Int
abbrev im:=Nat × List T × Nat × Nat × Nat × Nat × List T × Nat × Nat × Nat × Nat × List T × Nat × List T × Nat × List T × Int × Int
abbrev iG:=Nat × List T × Nat × List T × Nat × List T × Nat × List T × Nat × List T × Nat × List T × Nat × List T × Int × Int
abbrev iU:=Nat × List T × Nat × List T × Nat × List T × Nat × List T × Nat × List T × Nat × List T × Int × Int
abbrev iS:=Nat × List T × Int × Int × Nat × List T × Nat × List T × Nat × List T × Nat × List T × Int
abbrev fF:=Nat × List T × Int × Nat × List T × Nat × List T × Nat × List T × Nat × List T × Int × Int
abbrev fB:=Int × Int × Int × Nat × List T × Nat × List T × Nat × List T × Nat × List T × Int × Int
abbrev Wi:=Nat × List T × Nat × List T × Nat × List T × Nat × List T × Nat × List T × Nat × List T
abbrev XT:=Nat × List T × Int × Int × Nat × List T × Nat × List T × Nat × List T × Nat × List T
abbrev ac:=Nat × List T × Nat × List T × Nat × List T × Nat × List T × Nat × List T × Int × Int
abbrev dp:=Nat × Nat × Nat × Nat × Nat × Int × Bool × Nat × Nat × Nat × Nat × Nat × List T
abbrev bD:=Nat × Nat × Nat × Nat × List T × Nat × Nat × Nat × Nat × List T × Nat × List T
abbrev dQ:=Nat × List T × Nat × List T × Bool × Nat × List T × Nat × List T × Int × Int
abbrev dW:=Int × Nat × List T × Nat × List T × Nat × List T × Nat × List T × Int × Int
abbrev bR:=Nat × Nat × Nat × Nat × Nat × Nat × Nat × Nat × Nat × Nat × Nat × List T
abbrev eD:=Nat × Nat × Nat × Nat × Nat × Int × Bool × Nat × Nat × Nat × Nat × Nat
abbrev dM:=Nat × List T × Nat × List T × Nat × List T × Nat × List T × Int × Int
abbrev Wc:=Nat × List T × Nat × List T × Bool × Nat × List T × Nat × List T
abbrev ap:=Nat × List T × Nat × Nat × List T × Nat × List T × Int × Int
abbrev bo:=Nat × Nat × Nat × Nat × Nat × Nat × Nat × Nat × Nat × List T
abbrev eP:=Nat × Nat × Nat × Nat × Nat × Nat × List T × Nat × List T
abbrev We:=Nat × List T × Nat × List T × Nat × List T × Nat × List T
abbrev XZ:=Nat × Nat × Nat × Nat × Nat × Nat × List T × Int × Int
abbrev Re:=Nat × List T × Nat × List T × Nat × List T × Int × Int
abbrev em:=Int × Int × Nat × List T × Nat × List T × Nat × List T
abbrev Zd:=Nat × List T × Int × Nat × Bool × Bool × Nat × List T
abbrev cZ:=Nat × List T × Int × Int × Int × Nat × List T × Bool
abbrev aD:=Nat × List T × Nat × Nat × Nat × Nat × List T × Bool
abbrev aQ:=Int × Int × Nat × List T × Nat × List T × Int × Int
abbrev WK:=Nat × List T × Nat × Nat × Nat × Nat × Nat × Bool
abbrev aE:=Int × Nat × List T × Int × Int × Nat × List T
abbrev en:=Nat × List T × Int × Int × Nat × List T × Int
abbrev Ym:=Nat × List T × Nat × List T × Int × Int × Int
abbrev ch:=Nat × List T × Nat × Nat × List T × Int × Int
abbrev ep:=Nat × Nat × Nat × Nat × List T × Nat × List T
abbrev bk:=Nat × Nat × Nat × Nat × List T × Int × Int
abbrev d8:=Int × Int × Nat × List T × Int × Int × Int
abbrev cR:=Nat × Nat × Nat × Nat × Nat × Nat × List T
abbrev eO:=Nat × List T × Nat × List T × Nat × List T
abbrev VD:=Nat × List T × Int × Int × Nat × List T
abbrev NY:=Nat × List T × Nat × List T × Int × Int
abbrev ak:=Nat × List T × Nat × Nat × Nat × Nat
abbrev Qn:=Nat × List T × Nat × List T × Bool
abbrev WJ:=Nat × List T × Nat × List T × Int
abbrev Z9:=Bool × Nat × List T × Int × Int
abbrev er:=Nat × List T × Bool × Int × Int
abbrev XF:=Int × Nat × List T × Int × Int
abbrev Yw:=Nat × List T × Int × Int × Int
abbrev RJ:=Nat × Nat × List T × Int × Int
abbrev eF:=Bool × Nat × Nat × Nat × Nat
abbrev DZ:=Nat × List T × Nat × List T
abbrev aL:=Nat × Nat × Nat × Nat × Nat
abbrev JE:=Nat × List T × Int × Int
abbrev Te:=Int × Int × Nat × List T
abbrev YS:Go.Desk.V:=⟨true,[.sl .own [.leaf,.leaf,.sl .own [.leaf]],.sl .own [.sl .own [.leaf,.leaf,.sl .own [.leaf]],.leaf,.leaf,.leaf,.leaf]],[.lst 0 [],.lst 0 []]⟩
abbrev jG:Go.Desk.V:=⟨true,[.sl .shr [.leaf,.leaf,.sl .shr [.leaf]],.sl .shr [.sl .shr [.leaf,.leaf,.sl .shr [.leaf]],.leaf,.leaf,.leaf,.leaf]],[.lst 0 [],.lst 0 []]⟩
abbrev cx:Go.Desk.V:=⟨true,[.leaf,.leaf,.leaf,.leaf,.leaf],[.flt .f32 0,.flt .f32 0,.flt .f32 0,.flt .f32 0,.flt .f32 0]⟩
abbrev R8:Go.Desk.V:=⟨false,[.rf .own [.sl .shr [.leaf],.leaf,.leaf]],[.ref [.lst 0 [],.int .i64 0,.int .u64 0]]⟩
abbrev ew:Go.Desk.V:=⟨true,[.leaf,.leaf,.leaf,.leaf],[.flt .f32 0,.flt .f32 0,.flt .f32 0,.flt .f32 0]⟩
abbrev jN:Go.Desk.V:=⟨true,[.leaf,.leaf,.sl .shr [.leaf]],[.int .i64 0,.int .i64 0,.lst 0 []]⟩
abbrev jD:Go.Desk.V:=⟨false,[.sl .shr [.sl .shr [.leaf],.leaf,.leaf,.leaf,.leaf]],[.lst 0 []]⟩
abbrev iR:Go.Desk.V:=⟨false,[.sl .own [.leaf,.leaf,.sl .own [.leaf]]],[.lst 0 []]⟩
abbrev jL:Go.Desk.V:=⟨false,[.sl .shr [.leaf,.leaf,.sl .shr [.leaf]]],[.lst 0 []]⟩
abbrev jE:Go.Desk.V:=⟨false,[.sl .shr [.leaf]],[.lst 0 []]⟩
abbrev EZ:Go.Desk.V:=⟨false,[.sl .own [.leaf]],[.lst 0 []]⟩
abbrev CC:Go.Desk.V:=⟨false,[.leaf],[.bool false]⟩
abbrev O3:Go.Desk.V:=⟨false,[.leaf],[.int .i64 0]⟩
abbrev H4:Go.Desk.V:=⟨false,[.leaf],[.flt .f32 0]⟩
abbrev T9:Go.Desk.V:=⟨false,[.leaf],[.flt .f64 0]⟩
abbrev Cf:Aa:=⟨.val,O3⟩
abbrev EX:Aa:=⟨.val,H4⟩
abbrev YI:Aa:=⟨.val,CC⟩
abbrev Vc:Aa:=⟨.val,T9⟩
abbrev EK:Aa:=⟨.val,jE⟩
abbrev J0:Aa:=⟨.iop,R8⟩
abbrev Yq:Aa:=⟨.val,jN⟩
abbrev V8:Aa:=⟨.val,jL⟩
abbrev SN:Aa:=⟨.val,jG⟩
abbrev Zf:Aa:=⟨.val,cx⟩
abbrev bF:Aa:=⟨.val,jD⟩
abbrev V2:AA:=.val false [.rf .shr [.sl .shr [.leaf,.leaf,.sl .shr [.leaf]],.sl .shr [.sl .shr [.leaf,.leaf,.sl .shr [.leaf]],.leaf,.leaf,.leaf,.leaf]]] [.ref [.lst 0 [],.lst 0 []]] [] 0
abbrev Fq:AA:=.box [.sl .own [.leaf,.leaf,.sl .own [.leaf]],.sl .own [.sl .own [.leaf,.leaf,.sl .own [.leaf]],.leaf,.leaf,.leaf,.leaf]] [.lst 0 [],.lst 0 []] [] 0
abbrev Og:AA:=.box [.sl .shr [.leaf,.leaf,.sl .shr [.leaf]],.sl .shr [.sl .shr [.leaf,.leaf,.sl .shr [.leaf]],.leaf,.leaf,.leaf,.leaf]] [.lst 0 [],.lst 0 []] [] 0
abbrev Wu:AA:=.box [.leaf,.leaf,.leaf,.leaf,.leaf] [.flt .f32 0,.flt .f32 0,.flt .f32 0,.flt .f32 0,.flt .f32 0] [] 0
abbrev aB:AA:=.val false [.sl .shr [.sl .shr [.leaf,.leaf,.sl .shr [.leaf]],.leaf,.leaf,.leaf,.leaf]] [.lst 0 []] [] 0
abbrev Y7:AA:=.box [.leaf,.leaf,.leaf,.leaf] [.flt .f32 0,.flt .f32 0,.flt .f32 0,.flt .f32 0] [] 0
abbrev Om:AA:=.val false [.sl .shr [.sl .shr [.leaf],.leaf,.leaf,.leaf,.leaf]] [.lst 0 []] [] 0
abbrev TG:AA:=.box [.sl .shr [.leaf],.leaf,.leaf] [.lst 0 [],.int .i64 0,.int .u64 0] [] 0
abbrev Vj:AA:=.val false [.sl .own [.leaf,.leaf,.sl .own [.leaf]]] [.lst 0 []] [] 0
abbrev JC:AA:=.val false [.sl .shr [.leaf,.leaf,.sl .shr [.leaf]]] [.lst 0 []] [] 0
abbrev ZL:AA:=.val false [.sl .own [.sl .own [.leaf]]] [.lst 0 []] [] 0
abbrev Ce:AA:=.val false [.sl .own [.leaf]] [.lst 0 []] [] 0
abbrev E1:AA:=.val false [.sl .shr [.leaf]] [.lst 0 []] [] 0
abbrev An:AA:=.val false [.leaf] [.int .i64 0] [] 0
abbrev Kl:AA:=.val false [.leaf] [.bool false] [] 0
abbrev Tq:AA:=.val false [.leaf] [.flt .f32 0] [] 0
abbrev MP:AA:=.val false [.leaf] [.flt .f64 0] [] 0
set_option linter.unusedVariables false
def x159.w:A7 E:=DP.w 159 (by kernel_rfl)
def x163.w:A7 E:=Ei.w 163 (by kernel_rfl)
def x169.w:A7 E:=Oe.w 169 (by kernel_rfl)
def x168.w:A7 E:=Ao.w 168 (by kernel_rfl)
def x179.w:A7 E:=Cc.w 179 (by kernel_rfl)
def x174.w:A7 E:=BM.w 174 (by kernel_rfl)
def x145.w:A7 E:=E6.w 145 (by kernel_rfl)
def x35.w:A7 E:=FY.w 3 [.leaf,.leaf,.sl .own [.leaf]] (by decide) (by decide) (by decide) (by decide) 35 (by kernel_rfl)
def f6:Nat→Nat→List T→Nat→List T→Option (Bool)
 | 0,_,_,_,_=>none
 | n+1,n1,l2,n3,l4 =>
   br (decide ((n1:Int)>(1048576:Int))) (
    some true) (
    some (decide ((n3:Int)>(1048576:Int))))
def CN:B4 (DZ) where
 pk:=fun (a0,a1,a2,a3)=>[.lst a0 a1,.lst a2 a3]
 up:=fun ls=>match ls with
  | [.lst a0 a1,.lst a2 a3]=>some (a0,a1,a2,a3)
  | _=>none
def Cq:B4 (Bool) where
 pk:=fun v=>[.bool v]
 up:=fun ls=>match ls with
  | [.bool a0]=>some a0
  | _=>none
def f6.P:List Aa:=[EK,EK]
def f6.A:AZ (Bool):=.one ⟨[CC],[none,none]⟩ Cq
def f6.F (n:Nat) (v:DZ):=let (a,b,c,d):=v;f6 n a b c d
def f6.O (n:Nat):BF:=AL (E:=E) [] [] n
theorem f6.ok:Bu 6 f6.P CN f6.A f6.F:=Bv c6 f6.O
def f6.w:A7 E:=BL 6 f6.P CN f6.A f6.F f6.ok
def f23:Nat→Nat→List T→Option (JE)
 | 0,_,_=>none
 | n+1,n1,l2 =>
   some (n1,l2,(0:Int),(0:Int))
def Bp:B4 (Nat × List T) where
 pk:=fun (a0,a1)=>[.lst a0 a1]
 up:=fun ls=>match ls with
  | [.lst a0 a1]=>some (a0,a1)
  | _=>none
def Bf:B4 (JE) where
 pk:=fun (a0,a1,a2,a3)=>[.lst a0 a1,.int a2,.int a3]
 up:=fun ls=>match ls with
  | [.lst a0 a1,.int a2,.int a3]=>some (a0,a1,a2,a3)
  | _=>none
def f23.P:List Aa:=[EK]
def f23.A:AZ (JE):=.one ⟨[R8],[none]⟩ Bf
def f23.F (n:Nat) (v:Nat × List T):=f23 n v.1 v.2
def f23.O (n:Nat):BF:=AL (E:=E) [] [] n
theorem f23.ok:Bu 23 f23.P Bp f23.A f23.F:=Bv c23 f23.O
def f23.w:A7 E:=BL 23 f23.P Bp f23.A f23.F f23.ok
def f95:Nat→Nat→List T→Int→Int→Option (XF)
 | 0,_,_,_,_=>none
 | n+1,n1,l2,i3,i4 =>
   br (decide (i3<(n1:Int))) (
    gd ((decide ((0≤i3)∧(i3<(n1:Int))))&&(AR [(.int .u8)] l2 (Int.toNat i3))) (
    let i5:=(IntKind.i64.wrap (FA l2 (Int.toNat i3)))
    let i6:=(IntKind.i64.wrap (i3+(1:Int)))
    let i7:=(IntKind.u64.wrap ((IntKind.u64.wrap ((IntKind.u64.wrap (i4 * (6364136223846793005:Int)))+(IntKind.u64.wrap i5)))+(1442695040888963407:Int)))
    br (decide (i6≤(n1:Int))) (
     some (i5,n1,l2,i6,i7)) (
     some ((IntKind.i64.wrap (intBits BinOp.and .u64 (Int.fdiv i7 (1099511627776:Int)) (255:Int))),n1,l2,i6,i7)))) (
    let i8:=(IntKind.i64.wrap (i3+(1:Int)))
    let i9:=(IntKind.u64.wrap ((IntKind.u64.wrap ((IntKind.u64.wrap (i4 * (6364136223846793005:Int)))+(0:Int)))+(1442695040888963407:Int)))
    br (decide (i8≤(n1:Int))) (
     some ((0:Int),n1,l2,i8,i9)) (
     some ((IntKind.i64.wrap (intBits BinOp.and .u64 (Int.fdiv i9 (1099511627776:Int)) (255:Int))),n1,l2,i8,i9)))
def U1:B4 (XF) where
 pk:=fun (a0,a1,a2,a3,a4)=>[.int a0,.lst a1 a2,.int a3,.int a4]
 up:=fun ls=>match ls with
  | [.int a0,.lst a1 a2,.int a3,.int a4]=>some (a0,a1,a2,a3,a4)
  | _=>none
def f95.P:List Aa:=[J0]
def f95.A:AZ (XF):=.one ⟨[O3],[some R8]⟩ U1
def f95.F (n:Nat) (v:JE):=let (a,b,c,d):=v;f95 n a b c d
def f95.O (n:Nat):BF:=AL (E:=E) [] [] n
theorem f95.ok:Bu 95 f95.P Bf f95.A f95.F:=Bv fH f95.O
def f95.w:A7 E:=BL 95 f95.P Bf f95.A f95.F f95.ok
def f58:Nat→Nat→List T→Int→Int→Int→Option (XF)
 | 0,_,_,_,_,_=>none
 | n+1,n1,l2,i3,i4,i5 =>
   br (decide (i5≤(1:Int))) (
    some ((0:Int),n1,l2,i3,i4)) (
    bd (f95 n n1 l2 i3 i4) fun r6 =>
    let i7:=r6.1
    let n8:=r6.2.1
    let l9:=r6.2.2.1
    let i10:=r6.2.2.2.1
    let i11:=r6.2.2.2.2
    br (decide (i5>(200:Int))) (
     bd (f95 n n8 l9 i10 i11) fun r12 =>
     let i13:=r12.1
     let n14:=r12.2.1
     let l15:=r12.2.2.1
     let i16:=r12.2.2.2.1
     let i17:=r12.2.2.2.2
     let i18:=(IntKind.i64.wrap ((IntKind.i64.wrap (i7 * (256:Int)))+i13))
     gd (!(decide (i5=(0:Int)))) (
     some ((Int.tmod i18 i5),n14,l15,i16,i17))) (
     gd (!(decide (i5=(0:Int)))) (
     some ((Int.tmod i7 i5),n8,l9,i10,i11))))
def Iy:B4 (Yw) where
 pk:=fun (a0,a1,a2,a3,a4)=>[.lst a0 a1,.int a2,.int a3,.int a4]
 up:=fun ls=>match ls with
  | [.lst a0 a1,.int a2,.int a3,.int a4]=>some (a0,a1,a2,a3,a4)
  | _=>none
def f58.P:List Aa:=[J0,Cf]
def f58.A:AZ (XF):=.one ⟨[O3],[some R8,none]⟩ U1
def f58.F (n:Nat) (v:Yw):=let (a,b,c,d,e):=v;f58 n a b c d e
def f58.O (n:Nat):BF:=AL (E:=E) [f95.w] [] n
theorem f58.ok:Bu 58 f58.P Iy f58.A f58.F:=Bv fP f58.O
def f58.w:A7 E:=BL 58 f58.P Iy f58.A f58.F f58.ok
def f59:Nat→Nat→List T→Int→Int→Int→Option (Z9)
 | 0,_,_,_,_,_=>none
 | n+1,n1,l2,i3,i4,i5 =>
   bd (f58 n n1 l2 i3 i4 i5) fun r6 =>
   let i7:=r6.1
   let n8:=r6.2.1
   let l9:=r6.2.2.1
   let i10:=r6.2.2.2.1
   let i11:=r6.2.2.2.2
   some ((i7==(0:Int)),n8,l9,i10,i11)
def Zi:B4 (Z9) where
 pk:=fun (a0,a1,a2,a3,a4)=>[.bool a0,.lst a1 a2,.int a3,.int a4]
 up:=fun ls=>match ls with
  | [.bool a0,.lst a1 a2,.int a3,.int a4]=>some (a0,a1,a2,a3,a4)
  | _=>none
def f59.P:List Aa:=[J0,Cf]
def f59.A:AZ (Z9):=.one ⟨[CC],[some R8,none]⟩ Zi
def f59.F (n:Nat) (v:Yw):=let (a,b,c,d,e):=v;f59 n a b c d e
def f59.O (n:Nat):BF:=AL (E:=E) [f58.w] [] n
theorem f59.ok:Bu 59 f59.P Iy f59.A f59.F:=Bv gv f59.O
def f59.w:A7 E:=BL 59 f59.P Iy f59.A f59.F f59.ok
def f98:Nat→Nat→List T→Int→Int→Option (RJ)
 | 0,_,_,_,_=>none
 | n+1,n1,l2,i3,i4 =>
   bd (f58 n n1 l2 i3 i4 (129:Int)) fun r5 =>
   let i6:=r5.1
   let n7:=r5.2.1
   let l8:=r5.2.2.1
   let i9:=r5.2.2.2.1
   let i10:=r5.2.2.2.2
   let i11:=(IntKind.i64.wrap (i6 - (64:Int)))
   bd (f59 n n7 l8 i9 i10 (4:Int)) fun r12 =>
   let b13:=r12.1
   let n14:=r12.2.1
   let l15:=r12.2.2.1
   let i16:=r12.2.2.2.1
   let i17:=r12.2.2.2.2
   br b13 (
    some ((fdiv .f32 (FloatKind.nearest .f32 i11) 1088421888),n14,l15,i16,i17)) (
    some ((fdiv .f32 (FloatKind.nearest .f32 i11) 1098907648),n14,l15,i16,i17))
def MV:B4 (RJ) where
 pk:=fun (a0,a1,a2,a3,a4)=>[.flt a0,.lst a1 a2,.int a3,.int a4]
 up:=fun ls=>match ls with
  | [.flt a0,.lst a1 a2,.int a3,.int a4]=>some (a0,a1,a2,a3,a4)
  | _=>none
def f98.P:List Aa:=[J0]
def f98.A:AZ (RJ):=.one ⟨[H4],[some R8]⟩ MV
def f98.F (n:Nat) (v:JE):=let (a,b,c,d):=v;f98 n a b c d
def f98.O (n:Nat):BF:=AL (E:=E) [f58.w,f59.w] [] n
theorem f98.ok:Bu 98 f98.P Bf f98.A f98.F:=Bv fQ f98.O
def f98.w:A7 E:=BL 98 f98.P Bf f98.A f98.F f98.ok
def f128:Nat→Nat→List T→Int→Int→Nat→List T→Option (aE)
 | 0,_,_,_,_,_,_=>none
 | n+1,n1,l2,i3,i4,n5,l6 =>
   bd (f58 n n1 l2 i3 i4 (n5:Int)) fun r7 =>
   let i8:=r7.1
   let n9:=r7.2.1
   let l10:=r7.2.2.1
   let i11:=r7.2.2.2.1
   let i12:=r7.2.2.2.2
   gd (decide ((0≤i8)∧(i8<(n5:Int)))) (
   gd (AR [(.int .i64)] l6 (Int.toNat i8)) (
   some ((FA l6 (Int.toNat i8)),n9,l10,i11,i12,n5,l6)))
def Ma:B4 (VD) where
 pk:=fun (a0,a1,a2,a3,a4,a5)=>[.lst a0 a1,.int a2,.int a3,.lst a4 a5]
 up:=fun ls=>match ls with
  | [.lst a0 a1,.int a2,.int a3,.lst a4 a5]=>some (a0,a1,a2,a3,a4,a5)
  | _=>none
def WH:B4 (aE) where
 pk:=fun (a0,a1,a2,a3,a4,a5,a6)=>[.int a0,.lst a1 a2,.int a3,.int a4,.lst a5 a6]
 up:=fun ls=>match ls with
  | [.int a0,.lst a1 a2,.int a3,.int a4,.lst a5 a6]=>some (a0,a1,a2,a3,a4,a5,a6)
  | _=>none
def f128.P:List Aa:=[J0,⟨.io,EZ⟩]
def f128.A:AZ (aE):=.one ⟨[O3],[some R8,some EZ]⟩ WH
def f128.F (n:Nat) (v:VD):=let (a,b,c,d,e,f):=v;f128 n a b c d e f
def f128.O (n:Nat):BF:=AL (E:=E) [f58.w] [] n
theorem f128.ok:Bu 128 f128.P Ma f128.A f128.F:=Bv cB f128.O
def f128.w:A7 E:=BL 128 f128.P Ma f128.A f128.F f128.ok
def f127:Nat→Int→Option (Nat)
 | 0,_=>none
 | n+1,i1 =>
   bd (DP n (IntKind.u32.wrap i1)) fun r2 =>
   let x3:=r2
   some x3
def Gh:B4 (Int) where
 pk:=fun v=>[.int v]
 up:=fun ls=>match ls with
  | [.int a0]=>some a0
  | _=>none
def BH:B4 (Nat) where
 pk:=fun v=>[.flt v]
 up:=fun ls=>match ls with
  | [.flt a0]=>some a0
  | _=>none
def f127.P:List Aa:=[Cf]
def f127.A:AZ (Nat):=.one ⟨[H4],[none]⟩ BH
def f127.F (n:Nat) (v:Int):=f127 n v
def f127.O (n:Nat):BF:=AL (E:=E) [x159.w] [] n
theorem f127.ok:Bu 127 f127.P Gh f127.A f127.F:=Bv ax f127.O
def f127.w:A7 E:=BL 127 f127.P Gh f127.A f127.F f127.ok
def f97:Nat→Nat→List T→Int→Int→Option (RJ)
 | 0,_,_,_,_=>none
 | n+1,n1,l2,i3,i4 =>
   bd (f59 n n1 l2 i3 i4 (12:Int)) fun r5 =>
   let b6:=r5.1
   let n7:=r5.2.1
   let l8:=r5.2.2.1
   let i9:=r5.2.2.2.1
   let i10:=r5.2.2.2.2
   br (!b6) (
    bd (f98 n n7 l8 i9 i10) fun r11 =>
    let x12:=r11.1
    let n13:=r11.2.1
    let l14:=r11.2.2.1
    let i15:=r11.2.2.2.1
    let i16:=r11.2.2.2.2
    some (x12,n13,l14,i15,i16)) (
    bd (f58 n n7 l8 i9 i10 (4:Int)) fun r17 =>
    let i18:=r17.1
    let n19:=r17.2.1
    let l20:=r17.2.2.1
    let i21:=r17.2.2.2.1
    let i22:=r17.2.2.2.2
    br (i18==(0:Int)) (
     bd (f128 n n19 l20 i21 i22 10 (AF (AF (AF (AF (AF (AF (AF (AF (AF (AF (reps 10 [(T.int .i64 (0:Int))]) 0 [(T.int .i64 (0:Int))]) 1 [(T.int .i64 (2147483648:Int))]) 2 [(T.int .i64 (2139095040:Int))]) 3 [(T.int .i64 (4286578688:Int))]) 4 [(T.int .i64 (2143289344:Int))]) 5 [(T.int .i64 (1:Int))]) 6 [(T.int .i64 (2139095039:Int))]) 7 [(T.int .i64 (8388608:Int))]) 8 [(T.int .i64 (8388607:Int))]) 9 [(T.int .i64 (2147483649:Int))])) fun r23 =>
     let i24:=r23.1
     let n25:=r23.2.1
     let l26:=r23.2.2.1
     let i27:=r23.2.2.2.1
     let i28:=r23.2.2.2.2.1
     bd (f127 n i24) fun r31 =>
     let x32:=r31
     some (x32,n25,l26,i27,i28)) (
     br (i18==(1:Int)) (
      bd (f58 n n19 l20 i21 i22 (65536:Int)) fun r33 =>
      let i34:=r33.1
      let n35:=r33.2.1
      let l36:=r33.2.2.1
      let i37:=r33.2.2.2.1
      let i38:=r33.2.2.2.2
      let i39:=(IntKind.i64.wrap (i34 * (65536:Int)))
      bd (f58 n n35 l36 i37 i38 (65536:Int)) fun r40 =>
      let i41:=r40.1
      let n42:=r40.2.1
      let l43:=r40.2.2.1
      let i44:=r40.2.2.2.1
      let i45:=r40.2.2.2.2
      bd (f127 n (IntKind.i64.wrap (i39+i41))) fun r46 =>
      let x47:=r46
      some (x47,n42,l43,i44,i45)) (
      br (i18==(2:Int)) (
       bd (f58 n n19 l20 i21 i22 (65536:Int)) fun r48 =>
       let i49:=r48.1
       let n50:=r48.2.1
       let l51:=r48.2.2.1
       let i52:=r48.2.2.2.1
       let i53:=r48.2.2.2.2
       bd (f127 n (IntKind.i64.wrap (i49 * (65536:Int)))) fun r54 =>
       let x55:=r54
       some (x55,n50,l51,i52,i53)) (
       bd (f98 n n19 l20 i21 i22) fun r56 =>
       let x57:=r56.1
       let n58:=r56.2.1
       let l59:=r56.2.2.1
       let i60:=r56.2.2.2.1
       let i61:=r56.2.2.2.2
       bd (f128 n n58 l59 i60 i61 4 (AF (AF (AF (AF (reps 4 [(T.int .i64 (0:Int))]) 0 [(T.int .i64 (8388608:Int))]) 1 [(T.int .i64 (2130706432:Int))]) 2 [(T.int .i64 (1610612736:Int))]) 3 [(T.int .i64 (536870912:Int))])) fun r62 =>
       let i63:=r62.1
       let n64:=r62.2.1
       let l65:=r62.2.2.1
       let i66:=r62.2.2.2.1
       let i67:=r62.2.2.2.2.1
       bd (f127 n i63) fun r70 =>
       let x71:=r70
       some ((AT .f32 x57 x71),n64,l65,i66,i67)))))
def f97.P:List Aa:=[J0]
def f97.A:AZ (RJ):=.one ⟨[H4],[some R8]⟩ MV
def f97.F (n:Nat) (v:JE):=let (a,b,c,d):=v;f97 n a b c d
def f97.O (n:Nat):BF:=AL (E:=E) [f58.w,f59.w,f98.w,f128.w,f127.w] [] n
theorem f97.ok:Bu 97 f97.P Bf f97.A f97.F:=Bv gl f97.O
def f97.w:A7 E:=BL 97 f97.P Bf f97.A f97.F f97.ok
def f124:Nat→Nat→List T→Int→Int→Option (RJ)
 | 0,_,_,_,_=>none
 | n+1,n1,l2,i3,i4 =>
   bd (f59 n n1 l2 i3 i4 (10:Int)) fun r5 =>
   let b6:=r5.1
   let n7:=r5.2.1
   let l8:=r5.2.2.1
   let i9:=r5.2.2.2.1
   let i10:=r5.2.2.2.2
   br b6 (
    bd (f97 n n7 l8 i9 i10) fun r11 =>
    let x12:=r11.1
    let n13:=r11.2.1
    let l14:=r11.2.2.1
    let i15:=r11.2.2.2.1
    let i16:=r11.2.2.2.2
    some (x12,n13,l14,i15,i16)) (
    bd (f58 n n7 l8 i9 i10 (17:Int)) fun r17 =>
    let i18:=r17.1
    let n19:=r17.2.1
    let l20:=r17.2.2.1
    let i21:=r17.2.2.2.1
    let i22:=r17.2.2.2.2
    some ((fdiv .f32 (FloatKind.nearest .f32 i18) 1098907648),n19,l20,i21,i22))
def f124.P:List Aa:=[J0]
def f124.A:AZ (RJ):=.one ⟨[H4],[some R8]⟩ MV
def f124.F (n:Nat) (v:JE):=let (a,b,c,d):=v;f124 n a b c d
def f124.O (n:Nat):BF:=AL (E:=E) [f58.w,f59.w,f97.w] [] n
theorem f124.ok:Bu 124 f124.P Bf f124.A f124.F:=Bv bu f124.O
def f124.w:A7 E:=BL 124 f124.P Bf f124.A f124.F f124.ok
def f157:Nat→Nat→List T→Int→Int→Option (RJ)
 | 0,_,_,_,_=>none
 | n+1,n1,l2,i3,i4 =>
   bd (f59 n n1 l2 i3 i4 (8:Int)) fun r5 =>
   let b6:=r5.1
   let n7:=r5.2.1
   let l8:=r5.2.2.1
   let i9:=r5.2.2.2.1
   let i10:=r5.2.2.2.2
   br b6 (
    bd (f97 n n7 l8 i9 i10) fun r11 =>
    let x12:=r11.1
    let n13:=r11.2.1
    let l14:=r11.2.2.1
    let i15:=r11.2.2.2.1
    let i16:=r11.2.2.2.2
    some (x12,n13,l14,i15,i16)) (
    bd (f59 n n7 l8 i9 i10 (3:Int)) fun r17 =>
    let b18:=r17.1
    let n19:=r17.2.1
    let l20:=r17.2.2.1
    let i21:=r17.2.2.2.1
    let i22:=r17.2.2.2.2
    br b18 (
     some (0,n19,l20,i21,i22)) (
     bd (f58 n n19 l20 i21 i22 (33:Int)) fun r23 =>
     let i24:=r23.1
     let n25:=r23.2.1
     let l26:=r23.2.2.1
     let i27:=r23.2.2.2.1
     let i28:=r23.2.2.2.2
     some ((fdiv .f32 (FloatKind.nearest .f32 (IntKind.i64.wrap (i24 - (16:Int)))) 1090519040),n25,l26,i27,i28)))
def f157.P:List Aa:=[J0]
def f157.A:AZ (RJ):=.one ⟨[H4],[some R8]⟩ MV
def f157.F (n:Nat) (v:JE):=let (a,b,c,d):=v;f157 n a b c d
def f157.O (n:Nat):BF:=AL (E:=E) [f58.w,f59.w,f97.w] [] n
theorem f157.ok:Bu 157 f157.P Bf f157.A f157.F:=Bv cA f157.O
def f157.w:A7 E:=BL 157 f157.P Bf f157.A f157.F f157.ok
def f125:Nat→Nat→List T→Int→Int→Option (XZ)
 | 0,_,_,_,_=>none
 | n+1,n1,l2,i3,i4 =>
   bd (f157 n n1 l2 i3 i4) fun r5 =>
   let x6:=r5.1
   let n7:=r5.2.1
   let l8:=r5.2.2.1
   let i9:=r5.2.2.2.1
   let i10:=r5.2.2.2.2
   bd (f157 n n7 l8 i9 i10) fun r11 =>
   let x12:=r11.1
   let n13:=r11.2.1
   let l14:=r11.2.2.1
   let i15:=r11.2.2.2.1
   let i16:=r11.2.2.2.2
   bd (f157 n n13 l14 i15 i16) fun r17 =>
   let x18:=r17.1
   let n19:=r17.2.1
   let l20:=r17.2.2.1
   let i21:=r17.2.2.2.1
   let i22:=r17.2.2.2.2
   bd (f58 n n19 l20 i21 i22 (15:Int)) fun r23 =>
   let i24:=r23.1
   let n25:=r23.2.1
   let l26:=r23.2.2.1
   let i27:=r23.2.2.2.1
   let i28:=r23.2.2.2.2
   let x29:=(fdiv .f32 (FloatKind.nearest .f32 (IntKind.i64.wrap (i24 - (7:Int)))) 1090519040)
   bd (f58 n n25 l26 i27 i28 (7:Int)) fun r30 =>
   let i31:=r30.1
   let n32:=r30.2.1
   let l33:=r30.2.2.1
   let i34:=r30.2.2.2.1
   let i35:=r30.2.2.2.2
   let x36:=(fdiv .f32 (FloatKind.nearest .f32 (IntKind.i64.wrap (i31 - (3:Int)))) 1090519040)
   bd (f59 n n32 l33 i34 i35 (4:Int)) fun r37 =>
   let b38:=r37.1
   let n39:=r37.2.1
   let l40:=r37.2.2.1
   let i41:=r37.2.2.2.1
   let i42:=r37.2.2.2.2
   br b38 (
    bd (f157 n n39 l40 i41 i42) fun r43 =>
    let x44:=r43.1
    let n45:=r43.2.1
    let l46:=r43.2.2.1
    let i47:=r43.2.2.2.1
    let i48:=r43.2.2.2.2
    bd (f59 n n45 l46 i47 i48 (4:Int)) fun r49 =>
    let b50:=r49.1
    let n51:=r49.2.1
    let l52:=r49.2.2.1
    let i53:=r49.2.2.2.1
    let i54:=r49.2.2.2.2
    br b50 (
     bd (f157 n n51 l52 i53 i54) fun r55 =>
     let x56:=r55.1
     let n57:=r55.2.1
     let l58:=r55.2.2.1
     let i59:=r55.2.2.2.1
     let i60:=r55.2.2.2.2
     some (x6,x12,x18,x44,x56,n57,l58,i59,i60)) (
     some (x6,x12,x18,x44,x36,n51,l52,i53,i54))) (
    bd (f59 n n39 l40 i41 i42 (4:Int)) fun r61 =>
    let b62:=r61.1
    let n63:=r61.2.1
    let l64:=r61.2.2.1
    let i65:=r61.2.2.2.1
    let i66:=r61.2.2.2.2
    br b62 (
     bd (f157 n n63 l64 i65 i66) fun r67 =>
     let x68:=r67.1
     let n69:=r67.2.1
     let l70:=r67.2.2.1
     let i71:=r67.2.2.2.1
     let i72:=r67.2.2.2.2
     some (x6,x12,x18,x29,x68,n69,l70,i71,i72)) (
     some (x6,x12,x18,x29,x36,n63,l64,i65,i66)))
def Lw:B4 (XZ) where
 pk:=fun (a0,a1,a2,a3,a4,a5,a6,a7,a8)=>[.flt a0,.flt a1,.flt a2,.flt a3,.flt a4,.lst a5 a6,.int a7,.int a8]
 up:=fun ls=>match ls with
  | [.flt a0,.flt a1,.flt a2,.flt a3,.flt a4,.lst a5 a6,.int a7,.int a8]=>some (a0,a1,a2,a3,a4,a5,a6,a7,a8)
  | _=>none
def f125.P:List Aa:=[J0]
def f125.A:AZ (XZ):=.one ⟨[cx],[some R8]⟩ Lw
def f125.F (n:Nat) (v:JE):=let (a,b,c,d):=v;f125 n a b c d
def f125.O (n:Nat):BF:=AL (E:=E) [f58.w,f59.w,f157.w] [] n
theorem f125.ok:Bu 125 f125.P Bf f125.A f125.F:=Bv bC f125.O
def f125.w:A7 E:=BL 125 f125.P Bf f125.A f125.F f125.ok
def f158:Nat→Nat→List T→Int→Int→Option (bk)
 | 0,_,_,_,_=>none
 | n+1,n1,l2,i3,i4 =>
   bd (f124 n n1 l2 i3 i4) fun r5 =>
   let x6:=r5.1
   let n7:=r5.2.1
   let l8:=r5.2.2.1
   let i9:=r5.2.2.2.1
   let i10:=r5.2.2.2.2
   bd (f124 n n7 l8 i9 i10) fun r11 =>
   let x12:=r11.1
   let n13:=r11.2.1
   let l14:=r11.2.2.1
   let i15:=r11.2.2.2.1
   let i16:=r11.2.2.2.2
   bd (f59 n n13 l14 i15 i16 (2:Int)) fun r17 =>
   let b18:=r17.1
   let n19:=r17.2.1
   let l20:=r17.2.2.1
   let i21:=r17.2.2.2.1
   let i22:=r17.2.2.2.2
   br b18 (
    bd (f97 n n19 l20 i21 i22) fun r23 =>
    let x24:=r23.1
    let n25:=r23.2.1
    let l26:=r23.2.2.1
    let i27:=r23.2.2.2.1
    let i28:=r23.2.2.2.2
    some (x6,x12,x24,n25,l26,i27,i28)) (
    some (x6,x12,0,n19,l20,i21,i22))
def WD:B4 (bk) where
 pk:=fun (a0,a1,a2,a3,a4,a5,a6)=>[.flt a0,.flt a1,.flt a2,.lst a3 a4,.int a5,.int a6]
 up:=fun ls=>match ls with
  | [.flt a0,.flt a1,.flt a2,.lst a3 a4,.int a5,.int a6]=>some (a0,a1,a2,a3,a4,a5,a6)
  | _=>none
def f158.P:List Aa:=[J0]
def f158.A:AZ (bk):=.one ⟨[⟨true,[.leaf,.leaf,.leaf],[.flt .f32 0,.flt .f32 0,.flt .f32 0]⟩],[some R8]⟩ WD
def f158.F (n:Nat) (v:JE):=let (a,b,c,d):=v;f158 n a b c d
def f158.O (n:Nat):BF:=AL (E:=E) [f59.w,f97.w,f124.w] [] n
theorem f158.ok:Bu 158 f158.P Bf f158.A f158.F:=Bv Z5 f158.O
def f158.w:A7 E:=BL 158 f158.P Bf f158.A f158.F f158.ok
def f126:Nat→Nat→List T→Int→Int→Option (XZ)
 | 0,_,_,_,_=>none
 | n+1,n1,l2,i3,i4 =>
   bd (f158 n n1 l2 i3 i4) fun r5 =>
   let x6:=r5.1
   let x7:=r5.2.1
   let x8:=r5.2.2.1
   let n9:=r5.2.2.2.1
   let l10:=r5.2.2.2.2.1
   let i11:=r5.2.2.2.2.2.1
   let i12:=r5.2.2.2.2.2.2
   bd (f124 n n9 l10 i11 i12) fun r13 =>
   let x14:=r13.1
   let n15:=r13.2.1
   let l16:=r13.2.2.1
   let i17:=r13.2.2.2.1
   let i18:=r13.2.2.2.2
   bd (f58 n n15 l16 i17 i18 (8:Int)) fun r19 =>
   let i20:=r19.1
   let n21:=r19.2.1
   let l22:=r19.2.2.1
   let i23:=r19.2.2.2.1
   let i24:=r19.2.2.2.2
   let x25:=(FloatKind.nearest .f32 (IntKind.i64.wrap ((1:Int)+i20)))
   bd (f59 n n21 l22 i23 i24 (10:Int)) fun r26 =>
   let b27:=r26.1
   let n28:=r26.2.1
   let l29:=r26.2.2.1
   let i30:=r26.2.2.2.1
   let i31:=r26.2.2.2.2
   br b27 (
    bd (f97 n n28 l29 i30 i31) fun r32 =>
    let x33:=r32.1
    let n34:=r32.2.1
    let l35:=r32.2.2.1
    let i36:=r32.2.2.2.1
    let i37:=r32.2.2.2.2
    some (x6,x7,x8,x14,x33,n34,l35,i36,i37)) (
    some (x6,x7,x8,x14,x25,n28,l29,i30,i31))
def f126.P:List Aa:=[J0]
def f126.A:AZ (XZ):=.one ⟨[cx],[some R8]⟩ Lw
def f126.F (n:Nat) (v:JE):=let (a,b,c,d):=v;f126 n a b c d
def f126.O (n:Nat):BF:=AL (E:=E) [f58.w,f59.w,f97.w,f124.w,f158.w] [] n
theorem f126.ok:Bu 126 f126.P Bf f126.A f126.F:=Bv ai f126.O
def f126.w:A7 E:=BL 126 f126.P Bf f126.A f126.F f126.ok
def f96:Nat→Nat→List T→Int→Int→Option (aQ)
 | 0,_,_,_,_=>none
 | n+1,n1,l2,i3,i4 =>
   bd (f58 n n1 l2 i3 i4 (7:Int)) fun r5 =>
   let i6:=r5.1
   let n7:=r5.2.1
   let l8:=r5.2.2.1
   let i9:=r5.2.2.2.1
   let i10:=r5.2.2.2.2
   br (i6==(0:Int)) (
    br (i6==(0:Int)) (
     bd (f124 n n7 l8 i9 i10) fun r11 =>
     let x12:=r11.1
     let n13:=r11.2.1
     let l14:=r11.2.2.1
     let i15:=r11.2.2.2.1
     let i16:=r11.2.2.2.2
     let l17:=((reps 0 [(T.flt .f32 0)])++(AF (reps 1 [(T.flt .f32 0)]) 0 [(T.flt .f32 x12)]))
     some (i6,(0:Int),1,l17,n13,l14,i15,i16)) (
     br (i6==(1:Int)) (
      bd (f125 n n7 l8 i9 i10) fun r18 =>
      let x19:=r18.1
      let x20:=r18.2.1
      let x21:=r18.2.2.1
      let x22:=r18.2.2.2.1
      let x23:=r18.2.2.2.2.1
      let n24:=r18.2.2.2.2.2.1
      let l25:=r18.2.2.2.2.2.2.1
      let i26:=r18.2.2.2.2.2.2.2.1
      let i27:=r18.2.2.2.2.2.2.2.2
      let l28:=(AF (AF (AF (AF (AF (reps 5 [(T.flt .f32 0)]) 0 [(T.flt .f32 x19)]) 1 [(T.flt .f32 x20)]) 2 [(T.flt .f32 x21)]) 3 [(T.flt .f32 x22)]) 4 [(T.flt .f32 x23)])
      some (i6,(0:Int),5,l28,n24,l25,i26,i27)) (
      br (i6==(2:Int)) (
       bd (f58 n n7 l8 i9 i10 (5:Int)) fun r29 =>
       let i30:=r29.1
       let n31:=r29.2.1
       let l32:=r29.2.2.1
       let i33:=r29.2.2.2.1
       let i34:=r29.2.2.2.2
       let i35:=(IntKind.i64.wrap ((1:Int)+i30))
       bd (f124 n n31 l32 i33 i34) fun r36 =>
       let x37:=r36.1
       let n38:=r36.2.1
       let l39:=r36.2.2.1
       let i40:=r36.2.2.2.1
       let i41:=r36.2.2.2.2
       let l42:=((reps 0 [(T.flt .f32 0)])++(AF (reps 1 [(T.flt .f32 0)]) 0 [(T.flt .f32 x37)]))
       bd (f124 n n38 l39 i40 i41) fun r43 =>
       let x44:=r43.1
       let n45:=r43.2.1
       let l46:=r43.2.2.1
       let i47:=r43.2.2.2.1
       let i48:=r43.2.2.2.2
       let l49:=(l42++(AF (reps 1 [(T.flt .f32 0)]) 0 [(T.flt .f32 x44)]))
       some (i6,i35,2,l49,n45,l46,i47,i48)) (
       br (i6==(3:Int)) (
        bd (f126 n n7 l8 i9 i10) fun r50 =>
        let x51:=r50.1
        let x52:=r50.2.1
        let x54:=r50.2.2.2.1
        let x55:=r50.2.2.2.2.1
        let n56:=r50.2.2.2.2.2.1
        let l57:=r50.2.2.2.2.2.2.1
        let i58:=r50.2.2.2.2.2.2.2.1
        let i59:=r50.2.2.2.2.2.2.2.2
        let l60:=(AF (AF (AF (AF (reps 4 [(T.flt .f32 0)]) 0 [(T.flt .f32 x51)]) 1 [(T.flt .f32 x52)]) 2 [(T.flt .f32 x54)]) 3 [(T.flt .f32 x55)])
        some (i6,(0:Int),4,l60,n56,l57,i58,i59)) (
        br (i6==(6:Int)) (
         bd (f58 n n7 l8 i9 i10 (5:Int)) fun r61 =>
         let i62:=r61.1
         let n63:=r61.2.1
         let l64:=r61.2.2.1
         let i65:=r61.2.2.2.1
         let i66:=r61.2.2.2.2
         bd (f58 n n63 l64 i65 i66 (16:Int)) fun r67 =>
         let i68:=r67.1
         let n69:=r67.2.1
         let l70:=r67.2.2.1
         let i71:=r67.2.2.2.1
         let i72:=r67.2.2.2.2
         let l73:=((reps 0 [(T.flt .f32 0)])++(AF (reps 1 [(T.flt .f32 0)]) 0 [(T.flt .f32 (fdiv .f32 (FloatKind.nearest .f32 (IntKind.i64.wrap ((1:Int)+i68))) 1098907648))]))
         bd (f124 n n69 l70 i71 i72) fun r74 =>
         let x75:=r74.1
         let n76:=r74.2.1
         let l77:=r74.2.2.1
         let i78:=r74.2.2.2.1
         let i79:=r74.2.2.2.2
         let l80:=(l73++(AF (reps 1 [(T.flt .f32 0)]) 0 [(T.flt .f32 x75)]))
         some (i6,i62,2,l80,n76,l77,i78,i79)) (
         some (i6,(0:Int),0,(reps 0 [(T.flt .f32 0)]),n7,l8,i9,i10))))))) (
    br (i6==(4:Int)) (
     bd (f124 n n7 l8 i9 i10) fun r81 =>
     let x82:=r81.1
     let n83:=r81.2.1
     let l84:=r81.2.2.1
     let i85:=r81.2.2.2.1
     let i86:=r81.2.2.2.2
     let l87:=((reps 0 [(T.flt .f32 0)])++(AF (reps 1 [(T.flt .f32 0)]) 0 [(T.flt .f32 x82)]))
     some (i6,(0:Int),1,l87,n83,l84,i85,i86)) (
     br (i6==(1:Int)) (
      bd (f125 n n7 l8 i9 i10) fun r88 =>
      let x89:=r88.1
      let x90:=r88.2.1
      let x91:=r88.2.2.1
      let x92:=r88.2.2.2.1
      let x93:=r88.2.2.2.2.1
      let n94:=r88.2.2.2.2.2.1
      let l95:=r88.2.2.2.2.2.2.1
      let i96:=r88.2.2.2.2.2.2.2.1
      let i97:=r88.2.2.2.2.2.2.2.2
      let l98:=(AF (AF (AF (AF (AF (reps 5 [(T.flt .f32 0)]) 0 [(T.flt .f32 x89)]) 1 [(T.flt .f32 x90)]) 2 [(T.flt .f32 x91)]) 3 [(T.flt .f32 x92)]) 4 [(T.flt .f32 x93)])
      some (i6,(0:Int),5,l98,n94,l95,i96,i97)) (
      br (i6==(2:Int)) (
       bd (f58 n n7 l8 i9 i10 (5:Int)) fun r99 =>
       let i100:=r99.1
       let n101:=r99.2.1
       let l102:=r99.2.2.1
       let i103:=r99.2.2.2.1
       let i104:=r99.2.2.2.2
       let i105:=(IntKind.i64.wrap ((1:Int)+i100))
       bd (f124 n n101 l102 i103 i104) fun r106 =>
       let x107:=r106.1
       let n108:=r106.2.1
       let l109:=r106.2.2.1
       let i110:=r106.2.2.2.1
       let i111:=r106.2.2.2.2
       let l112:=((reps 0 [(T.flt .f32 0)])++(AF (reps 1 [(T.flt .f32 0)]) 0 [(T.flt .f32 x107)]))
       bd (f124 n n108 l109 i110 i111) fun r113 =>
       let x114:=r113.1
       let n115:=r113.2.1
       let l116:=r113.2.2.1
       let i117:=r113.2.2.2.1
       let i118:=r113.2.2.2.2
       let l119:=(l112++(AF (reps 1 [(T.flt .f32 0)]) 0 [(T.flt .f32 x114)]))
       some (i6,i105,2,l119,n115,l116,i117,i118)) (
       br (i6==(3:Int)) (
        bd (f126 n n7 l8 i9 i10) fun r120 =>
        let x121:=r120.1
        let x122:=r120.2.1
        let x124:=r120.2.2.2.1
        let x125:=r120.2.2.2.2.1
        let n126:=r120.2.2.2.2.2.1
        let l127:=r120.2.2.2.2.2.2.1
        let i128:=r120.2.2.2.2.2.2.2.1
        let i129:=r120.2.2.2.2.2.2.2.2
        let l130:=(AF (AF (AF (AF (reps 4 [(T.flt .f32 0)]) 0 [(T.flt .f32 x121)]) 1 [(T.flt .f32 x122)]) 2 [(T.flt .f32 x124)]) 3 [(T.flt .f32 x125)])
        some (i6,(0:Int),4,l130,n126,l127,i128,i129)) (
        br (i6==(6:Int)) (
         bd (f58 n n7 l8 i9 i10 (5:Int)) fun r131 =>
         let i132:=r131.1
         let n133:=r131.2.1
         let l134:=r131.2.2.1
         let i135:=r131.2.2.2.1
         let i136:=r131.2.2.2.2
         bd (f58 n n133 l134 i135 i136 (16:Int)) fun r137 =>
         let i138:=r137.1
         let n139:=r137.2.1
         let l140:=r137.2.2.1
         let i141:=r137.2.2.2.1
         let i142:=r137.2.2.2.2
         let l143:=((reps 0 [(T.flt .f32 0)])++(AF (reps 1 [(T.flt .f32 0)]) 0 [(T.flt .f32 (fdiv .f32 (FloatKind.nearest .f32 (IntKind.i64.wrap ((1:Int)+i138))) 1098907648))]))
         bd (f124 n n139 l140 i141 i142) fun r144 =>
         let x145:=r144.1
         let n146:=r144.2.1
         let l147:=r144.2.2.1
         let i148:=r144.2.2.2.1
         let i149:=r144.2.2.2.2
         let l150:=(l143++(AF (reps 1 [(T.flt .f32 0)]) 0 [(T.flt .f32 x145)]))
         some (i6,i132,2,l150,n146,l147,i148,i149)) (
         some (i6,(0:Int),0,(reps 0 [(T.flt .f32 0)]),n7,l8,i9,i10)))))))
def VZ:B4 (aQ) where
 pk:=fun (a0,a1,a2,a3,a4,a5,a6,a7)=>[.int a0,.int a1,.lst a2 a3,.lst a4 a5,.int a6,.int a7]
 up:=fun ls=>match ls with
  | [.int a0,.int a1,.lst a2 a3,.lst a4 a5,.int a6,.int a7]=>some (a0,a1,a2,a3,a4,a5,a6,a7)
  | _=>none
def f96.P:List Aa:=[J0]
def f96.A:AZ (aQ):=.one ⟨[⟨true,[.leaf,.leaf,.sl .own [.leaf]],[.int .i64 0,.int .i64 0,.lst 0 []]⟩],[some R8]⟩ VZ
def f96.F (n:Nat) (v:JE):=let (a,b,c,d):=v;f96 n a b c d
def f96.O (n:Nat):BF:=AL (E:=E) [f58.w,f124.w,f125.w,f126.w] [] n
theorem f96.ok:Bu 96 f96.P Bf f96.A f96.F:=Bv fR f96.O
def f96.w:A7 E:=BL 96 f96.P Bf f96.A f96.F f96.ok
def f60.l0 (n:Nat):Nat→Nat→List T→Int→Int→Nat→List T→Int→Option (VD)
 | 0,_,_,_,_,_,_,_=>none
 | m+1,n1,l2,i3,i4,n5,l6,i7 =>
   br (decide (i7>(0:Int))) (
    bd (f96 n n1 l2 i3 i4) fun r8 =>
    let i9:=r8.1
    let i10:=r8.2.1
    let n11:=r8.2.2.1
    let l12:=r8.2.2.2.1
    let n13:=r8.2.2.2.2.1
    let l14:=r8.2.2.2.2.2.1
    let i15:=r8.2.2.2.2.2.2.1
    let i16:=r8.2.2.2.2.2.2.2
    gd (Nat.ble (n5+1) 2147483648) (
    let n17:=(n5+1)
    let l18:=(l6++(AF (reps 1 [(T.int .i64 (0:Int)),(T.int .i64 (0:Int)),(T.lst 0 [])]) 0 [(T.int .i64 i9),(T.int .i64 i10),(T.lst n11 l12)]))
    f60.l0 n m n13 l14 i15 i16 n17 l18 (IntKind.i64.wrap (i7 - (1:Int))))) (
    some (n1,l2,i3,i4,n5,l6))
def f60:Nat→Nat→List T→Int→Int→Option (NY)
 | 0,_,_,_,_=>none
 | n+1,n1,l2,i3,i4 =>
   bd (f58 n n1 l2 i3 i4 (5:Int)) fun r5 =>
   let i6:=r5.1
   let n7:=r5.2.1
   let l8:=r5.2.2.1
   let i9:=r5.2.2.2.1
   let i10:=r5.2.2.2.2
   bd (f59 n n7 l8 i9 i10 (24:Int)) fun r11 =>
   let b12:=r11.1
   let n13:=r11.2.1
   let l14:=r11.2.2.1
   let i15:=r11.2.2.2.1
   let i16:=r11.2.2.2.2
   br b12 (
    bd (f60.l0 n n n13 l14 i15 i16 0 (reps 0 [(T.int .i64 (0:Int)),(T.int .i64 (0:Int)),(T.lst 0 [])]) (8:Int)) fun r17 =>
    let n18:=r17.1
    let l19:=r17.2.1
    let i20:=r17.2.2.1
    let i21:=r17.2.2.2.1
    let n22:=r17.2.2.2.2.1
    let l23:=r17.2.2.2.2.2
    some (n22,l23,n18,l19,i20,i21)) (
    bd (f60.l0 n n n13 l14 i15 i16 0 (reps 0 [(T.int .i64 (0:Int)),(T.int .i64 (0:Int)),(T.lst 0 [])]) i6) fun r24 =>
    let n25:=r24.1
    let l26:=r24.2.1
    let i27:=r24.2.2.1
    let i28:=r24.2.2.2.1
    let n29:=r24.2.2.2.2.1
    let l30:=r24.2.2.2.2.2
    some (n29,l30,n25,l26,i27,i28))
def C6:B4 (NY) where
 pk:=fun (a0,a1,a2,a3,a4,a5)=>[.lst a0 a1,.lst a2 a3,.int a4,.int a5]
 up:=fun ls=>match ls with
  | [.lst a0 a1,.lst a2 a3,.int a4,.int a5]=>some (a0,a1,a2,a3,a4,a5)
  | _=>none
def Rz:B4 (en) where
 pk:=fun (a0,a1,a2,a3,a4,a5,a6)=>[.lst a0 a1,.int a2,.int a3,.lst a4 a5,.int a6]
 up:=fun ls=>match ls with
  | [.lst a0 a1,.int a2,.int a3,.lst a4 a5,.int a6]=>some (a0,a1,a2,a3,a4,a5,a6)
  | _=>none
def f60.l0.P:AS:=⟨[(0,TG),(3,Vj),(4,An)],0⟩
def f60.l0.A:Fy (VD):=.one (.exit 0) ⟨[(0,TG),(3,Vj)],0⟩ Ma
def f60.l0.F (n m:Nat) (v:en):=let (a,b,c,d,e,f,g):=v;f60.l0 n m a b c d e f g
def f60.l0.W (n:Nat):GT:=.of 80 f60.l0.P Rz f60.l0.A (f60.l0.F n n)
def f60.P:List Aa:=[J0]
def f60.A:AZ (NY):=.one ⟨[iR],[some R8]⟩ C6
def f60.F (n:Nat) (v:JE):=let (a,b,c,d):=v;f60 n a b c d
def f60.O (n:Nat):BF:=AL (E:=E) [f58.w,f59.w,f96.w] [f60.l0.W n] n
theorem f60.l0.ok:∀ n,HO 60 dN 0 n (f60.O n):=Hi f60.l0.P Rz f60.l0.A f60.l0.F
theorem f60.ok:Bu 60 f60.P Bf f60.A f60.F:=Bv dN f60.O [Ap dN 0] (fun n=>(.cons (f60.l0.ok n) .nil))
def f60.w:A7 E:=BL 60 f60.P Bf f60.A f60.F f60.ok
def f24.l0 (n:Nat):Nat→Nat→List T→Int→Int→Nat→List T→Nat→List T→Nat→List T→Nat→List T→Int→Option (XT)
 | 0,_,_,_,_,_,_,_,_,_,_,_,_,_=>none
 | m+1,n1,l2,i3,i4,n5,l6,n7,l8,n9,l10,n11,l12,i13 =>
   br (decide (i13>(0:Int))) (
    bd (f59 n n1 l2 i3 i4 (6:Int)) fun r14 =>
    let b15:=r14.1
    let n16:=r14.2.1
    let l17:=r14.2.2.1
    let i18:=r14.2.2.2.1
    let i19:=r14.2.2.2.2
    bd (f59 n n16 l17 i18 i19 (8:Int)) fun r20 =>
    let b21:=r20.1
    let n22:=r20.2.1
    let l23:=r20.2.2.1
    let i24:=r20.2.2.2.1
    let i25:=r20.2.2.2.2
    bd (f59 n n22 l23 i24 i25 (2:Int)) fun r26 =>
    let b27:=r26.1
    let n28:=r26.2.1
    let l29:=r26.2.2.1
    let i30:=r26.2.2.2.1
    let i31:=r26.2.2.2.2
    br b27 (
     bd (f60 n n28 l29 i30 i31) fun r32 =>
     let n33:=r32.1
     let l34:=r32.2.1
     let n35:=r32.2.2.1
     let l36:=r32.2.2.2.1
     let i37:=r32.2.2.2.2.1
     let i38:=r32.2.2.2.2.2
     bd (f58 n n35 l36 i37 i38 (120:Int)) fun r39 =>
     let i40:=r39.1
     let n41:=r39.2.1
     let l42:=r39.2.2.1
     let i43:=r39.2.2.2.1
     let i44:=r39.2.2.2.2
     let i45:=(IntKind.i64.wrap (i40 - (90:Int)))
     bd (f58 n n41 l42 i43 i44 (17:Int)) fun r46 =>
     let i47:=r46.1
     let n48:=r46.2.1
     let l49:=r46.2.2.1
     let i50:=r46.2.2.2.1
     let i51:=r46.2.2.2.2
     let x52:=(fdiv .f32 (FloatKind.nearest .f32 i47) 1098907648)
     gd (Nat.ble (n11+1) 2147483648) (
     let n53:=(n11+1)
     let l54:=(l12++(AF (reps 1 [(T.lst 0 []),(T.int .i64 (0:Int)),(T.flt .f32 0),(T.bool false),(T.bool false)]) 0 [(T.lst n33 l34),(T.int .i64 i45),(T.flt .f32 x52),(T.bool b15),(T.bool b21)]))
     f24.l0 n m n48 l49 i50 i51 n5 l6 n7 l8 n9 l10 n53 l54 (IntKind.i64.wrap (i13 - (1:Int))))) (
     bd (f58 n n28 l29 i30 i31 (120:Int)) fun r55 =>
     let i56:=r55.1
     let n57:=r55.2.1
     let l58:=r55.2.2.1
     let i59:=r55.2.2.2.1
     let i60:=r55.2.2.2.2
     let i61:=(IntKind.i64.wrap (i56 - (90:Int)))
     bd (f58 n n57 l58 i59 i60 (17:Int)) fun r62 =>
     let i63:=r62.1
     let n64:=r62.2.1
     let l65:=r62.2.2.1
     let i66:=r62.2.2.2.1
     let i67:=r62.2.2.2.2
     let x68:=(fdiv .f32 (FloatKind.nearest .f32 i63) 1098907648)
     gd (Nat.ble (n11+1) 2147483648) (
     let n69:=(n11+1)
     let l70:=(l12++(AF (reps 1 [(T.lst 0 []),(T.int .i64 (0:Int)),(T.flt .f32 0),(T.bool false),(T.bool false)]) 0 [(T.lst 0 (reps 0 [(T.int .i64 (0:Int)),(T.int .i64 (0:Int)),(T.lst 0 [])])),(T.int .i64 i61),(T.flt .f32 x68),(T.bool b15),(T.bool b21)]))
     f24.l0 n m n64 l65 i66 i67 n5 l6 n7 l8 n9 l10 n69 l70 (IntKind.i64.wrap (i13 - (1:Int)))))) (
    some (n1,l2,i3,i4,n5,l6,n7,l8,n9,l10,n11,l12))
termination_by structural x=>x
def f61.l0 (n:Nat):Nat→Nat→List T→Int→Int→Int→Nat→List T→Bool→Option (VD)
 | 0,_,_,_,_,_,_,_,_=>none
 | m+1,n1,l2,i3,i4,i5,n6,l7,b8 =>
   br (decide (i5>(0:Int))) (
    br b8 (
     bd (f97 n n1 l2 i3 i4) fun r9 =>
     let x10:=r9.1
     let n11:=r9.2.1
     let l12:=r9.2.2.1
     let i13:=r9.2.2.2.1
     let i14:=r9.2.2.2.2
     gd (Nat.ble (n6+1) 2147483648) (
     let n15:=(n6+1)
     let l16:=(l7++(AF (reps 1 [(T.flt .f32 0)]) 0 [(T.flt .f32 x10)]))
     f61.l0 n m n11 l12 i13 i14 (IntKind.i64.wrap (i5 - (1:Int))) n15 l16 b8)) (
     bd (f98 n n1 l2 i3 i4) fun r17 =>
     let x18:=r17.1
     let n19:=r17.2.1
     let l20:=r17.2.2.1
     let i21:=r17.2.2.2.1
     let i22:=r17.2.2.2.2
     gd (Nat.ble (n6+1) 2147483648) (
     let n23:=(n6+1)
     let l24:=(l7++(AF (reps 1 [(T.flt .f32 0)]) 0 [(T.flt .f32 x18)]))
     f61.l0 n m n19 l20 i21 i22 (IntKind.i64.wrap (i5 - (1:Int))) n23 l24 b8))) (
    some (n1,l2,i3,i4,n6,l7))
def f61:Nat→Nat→List T→Int→Int→Int→Option (NY)
 | 0,_,_,_,_,_=>none
 | n+1,n1,l2,i3,i4,i5 =>
   bd (f59 n n1 l2 i3 i4 (4:Int)) fun r6 =>
   let b7:=r6.1
   let n8:=r6.2.1
   let l9:=r6.2.2.1
   let i10:=r6.2.2.2.1
   let i11:=r6.2.2.2.2
   bd (f61.l0 n n n8 l9 i10 i11 i5 0 (reps 0 [(T.flt .f32 0)]) b7) fun r12 =>
   let n13:=r12.1
   let l14:=r12.2.1
   let i15:=r12.2.2.1
   let i16:=r12.2.2.2.1
   let n17:=r12.2.2.2.2.1
   let l18:=r12.2.2.2.2.2
   some (n17,l18,n13,l14,i15,i16)
def PU:B4 (cZ) where
 pk:=fun (a0,a1,a2,a3,a4,a5,a6,a7)=>[.lst a0 a1,.int a2,.int a3,.int a4,.lst a5 a6,.bool a7]
 up:=fun ls=>match ls with
  | [.lst a0 a1,.int a2,.int a3,.int a4,.lst a5 a6,.bool a7]=>some (a0,a1,a2,a3,a4,a5,a6,a7)
  | _=>none
def f61.l0.P:AS:=⟨[(0,TG),(1,An),(5,Ce),(6,Kl)],0⟩
def f61.l0.A:Fy (VD):=.one (.exit 0) ⟨[(0,TG),(5,Ce)],0⟩ Ma
def f61.l0.F (n m:Nat) (v:cZ):=let (a,b,c,d,e,f,g,h):=v;f61.l0 n m a b c d e f g h
def f61.l0.W (n:Nat):GT:=.of 48 f61.l0.P PU f61.l0.A (f61.l0.F n n)
def f61.P:List Aa:=[J0,Cf]
def f61.A:AZ (NY):=.one ⟨[EZ],[some R8,none]⟩ C6
def f61.F (n:Nat) (v:Yw):=let (a,b,c,d,e):=v;f61 n a b c d e
def f61.O (n:Nat):BF:=AL (E:=E) [f59.w,f98.w,f97.w] [f61.l0.W n] n
theorem f61.l0.ok:∀ n,HO 61 dt 0 n (f61.O n):=Hi f61.l0.P PU f61.l0.A f61.l0.F
theorem f61.ok:Bu 61 f61.P Iy f61.A f61.F:=Bv dt f61.O [Ap dt 0] (fun n=>(.cons (f61.l0.ok n) .nil))
def f61.w:A7 E:=BL 61 f61.P Iy f61.A f61.F f61.ok
def f24.l1 (n:Nat):Nat→Nat→List T→Int→Int→Nat→List T→Nat→List T→Nat→List T→Nat→List T→Int→Option (XT)
 | 0,_,_,_,_,_,_,_,_,_,_,_,_,_=>none
 | m+1,n1,l2,i3,i4,n5,l6,n7,l8,n9,l10,n11,l12,i13 =>
   br (decide (i13>(0:Int))) (
    bd (f58 n n1 l2 i3 i4 (n11:Int)) fun r14 =>
    let i15:=r14.1
    let n16:=r14.2.1
    let l17:=r14.2.2.1
    let i18:=r14.2.2.2.1
    let i19:=r14.2.2.2.2
    bd (f58 n n16 l17 i18 i19 (12:Int)) fun r20 =>
    let i21:=r20.1
    let n22:=r20.2.1
    let l23:=r20.2.2.1
    let i24:=r20.2.2.2.1
    let i25:=r20.2.2.2.2
    bd (f58 n n22 l23 i24 i25 (9:Int)) fun r26 =>
    let i27:=r26.1
    let n28:=r26.2.1
    let l29:=r26.2.2.1
    let i30:=r26.2.2.2.1
    let i31:=r26.2.2.2.2
    bd (f61 n n28 l29 i30 i31 i27) fun r32 =>
    let n33:=r32.1
    let l34:=r32.2.1
    let n35:=r32.2.2.1
    let l36:=r32.2.2.2.1
    let i37:=r32.2.2.2.2.1
    let i38:=r32.2.2.2.2.2
    gd (Nat.ble (n9+1) 2147483648) (
    let n39:=(n9+1)
    let l40:=(l10++(AF (reps 1 [(T.int .i64 (0:Int)),(T.int .i64 (0:Int)),(T.lst 0 [])]) 0 [(T.int .i64 i15),(T.int .i64 i21),(T.lst n33 l34)]))
    f24.l1 n m n35 l36 i37 i38 n5 l6 n7 l8 n39 l40 n11 l12 (IntKind.i64.wrap (i13 - (1:Int))))) (
    some (n1,l2,i3,i4,n5,l6,n7,l8,n9,l10,n11,l12))
termination_by structural x=>x
def f24:Nat→Nat→List T→Int→Int→Option (Re)
 | 0,_,_,_,_=>none
 | n+1,n1,l2,i3,i4 =>
   bd (f58 n n1 l2 i3 i4 (3:Int)) fun r5 =>
   let i6:=r5.1
   let n7:=r5.2.1
   let l8:=r5.2.2.1
   let i9:=r5.2.2.2.1
   let i10:=r5.2.2.2.2
   bd (f24.l0 n n n7 l8 i9 i10 0 [] 0 [] 0 (reps 0 [(T.int .i64 (0:Int)),(T.int .i64 (0:Int)),(T.lst 0 [])]) 0 (reps 0 [(T.lst 0 []),(T.int .i64 (0:Int)),(T.flt .f32 0),(T.bool false),(T.bool false)]) (IntKind.i64.wrap ((1:Int)+i6))) fun r11 =>
   let n12:=r11.1
   let l13:=r11.2.1
   let i14:=r11.2.2.1
   let i15:=r11.2.2.2.1
   let n16:=r11.2.2.2.2.1
   let l17:=r11.2.2.2.2.2.1
   let n18:=r11.2.2.2.2.2.2.1
   let l19:=r11.2.2.2.2.2.2.2.1
   let n20:=r11.2.2.2.2.2.2.2.2.1
   let l21:=r11.2.2.2.2.2.2.2.2.2.1
   let n22:=r11.2.2.2.2.2.2.2.2.2.2.1
   let l23:=r11.2.2.2.2.2.2.2.2.2.2.2
   bd (f58 n n12 l13 i14 i15 (5:Int)) fun r24 =>
   let i25:=r24.1
   let n26:=r24.2.1
   let l27:=r24.2.2.1
   let i28:=r24.2.2.2.1
   let i29:=r24.2.2.2.2
   bd (f24.l1 n n n26 l27 i28 i29 n16 l17 n18 l19 n20 l21 n22 l23 i25) fun r30 =>
   let n31:=r30.1
   let l32:=r30.2.1
   let i33:=r30.2.2.1
   let i34:=r30.2.2.2.1
   let n39:=r30.2.2.2.2.2.2.2.2.1
   let l40:=r30.2.2.2.2.2.2.2.2.2.1
   let n41:=r30.2.2.2.2.2.2.2.2.2.2.1
   let l42:=r30.2.2.2.2.2.2.2.2.2.2.2
   some (n39,l40,n41,l42,n31,l32,i33,i34)
def DG:B4 (Re) where
 pk:=fun (a0,a1,a2,a3,a4,a5,a6,a7)=>[.lst a0 a1,.lst a2 a3,.lst a4 a5,.int a6,.int a7]
 up:=fun ls=>match ls with
  | [.lst a0 a1,.lst a2 a3,.lst a4 a5,.int a6,.int a7]=>some (a0,a1,a2,a3,a4,a5,a6,a7)
  | _=>none
def GX:B4 (iS) where
 pk:=fun (a0,a1,a2,a3,a4,a5,a6,a7,a8,a9,a10,a11,a12)=>[.lst a0 a1,.int a2,.int a3,.lst a4 a5,.lst a6 a7,.lst a8 a9,.lst a10 a11,.int a12]
 up:=fun ls=>match ls with
  | [.lst a0 a1,.int a2,.int a3,.lst a4 a5,.lst a6 a7,.lst a8 a9,.lst a10 a11,.int a12]=>some (a0,a1,a2,a3,a4,a5,a6,a7,a8,a9,a10,a11,a12)
  | _=>none
def OM:B4 (XT) where
 pk:=fun (a0,a1,a2,a3,a4,a5,a6,a7,a8,a9,a10,a11)=>[.lst a0 a1,.int a2,.int a3,.lst a4 a5,.lst a6 a7,.lst a8 a9,.lst a10 a11]
 up:=fun ls=>match ls with
  | [.lst a0 a1,.int a2,.int a3,.lst a4 a5,.lst a6 a7,.lst a8 a9,.lst a10 a11]=>some (a0,a1,a2,a3,a4,a5,a6,a7,a8,a9,a10,a11)
  | _=>none
def f24.l0.P:AS:=⟨[(0,TG),(2,Fq),(3,Fq),(4,An)],0⟩
def f24.l0.A:Fy (XT):=.one (.exit 0) ⟨[(0,TG),(2,Fq),(3,Fq)],0⟩ OM
def f24.l0.F (n m:Nat) (v:iS):=let (a,b,c,d,e,f,g,h,i,j,k,l,o):=v;f24.l0 n m a b c d e f g h i j k l o
def f24.l0.W (n:Nat):GT:=.of 48 f24.l0.P GX f24.l0.A (f24.l0.F n n)
def f24.l1.P:AS:=⟨[(0,TG),(2,Fq),(3,Fq),(6,An)],0⟩
def f24.l1.A:Fy (XT):=.one (.exit 2) ⟨[(0,TG),(2,Fq),(3,Fq)],0⟩ OM
def f24.l1.F (n m:Nat) (v:iS):=let (a,b,c,d,e,f,g,h,i,j,k,l,o):=v;f24.l1 n m a b c d e f g h i j k l o
def f24.l1.W (n:Nat):GT:=.of 192 f24.l1.P GX f24.l1.A (f24.l1.F n n)
def f24.P:List Aa:=[J0]
def f24.A:AZ (Re):=.one ⟨[YS],[some R8]⟩ DG
def f24.F (n:Nat) (v:JE):=let (a,b,c,d):=v;f24 n a b c d
def f24.O (n:Nat):BF:=AL (E:=E) [f58.w,f59.w,f60.w,f61.w] [f24.l0.W n,f24.l1.W n] n
theorem f24.l0.ok:∀ n,HO 24 ae 0 n (f24.O n):=Hi f24.l0.P GX f24.l0.A f24.l0.F
theorem f24.l1.ok:∀ n,HO 24 ae 1 n (f24.O n):=Hi f24.l1.P GX f24.l1.A f24.l1.F
theorem f24.ok:Bu 24 f24.P Bf f24.A f24.F:=Bv ae f24.O [Ap ae 0,Ap ae 1] (fun n=>(.cons (f24.l0.ok n) (.cons (f24.l1.ok n) .nil)))
def f24.w:A7 E:=BL 24 f24.P Bf f24.A f24.F f24.ok
def f7:Nat→Nat→List T→Option (DZ)
 | 0,_,_=>none
 | n+1,n1,l2 =>
   bd (f23 n n1 l2) fun r3 =>
   let n4:=r3.1
   let l5:=r3.2.1
   let i6:=r3.2.2.1
   let i7:=r3.2.2.2
   bd (f24 n n4 l5 i6 i7) fun r8 =>
   let n9:=r8.1
   let l10:=r8.2.1
   let n11:=r8.2.2.1
   let l12:=r8.2.2.2.1
   some (n9,l10,n11,l12)
def f7.P:List Aa:=[EK]
def f7.A:AZ (DZ):=.one ⟨[YS],[none]⟩ CN
def f7.F (n:Nat) (v:Nat × List T):=f7 n v.1 v.2
def f7.O (n:Nat):BF:=AL (E:=E) [f23.w,f24.w] [] n
theorem f7.ok:Bu 7 f7.P Bp f7.A f7.F:=Bv c7 f7.O
def f7.w:A7 E:=BL 7 f7.P Bp f7.A f7.F f7.ok
def f8:Nat→Nat→List T→Int→Int→Option (Int)
 | 0,_,_,_,_=>none
 | n+1,n1,l2,i3,i4 =>
   br (decide (i4≤(1:Int))) (
    some (0:Int)) (
    br (decide (i3<(n1:Int))) (
     gd ((decide ((0≤i3)∧(i3<(n1:Int))))&&(AR [(.int .u8)] l2 (Int.toNat i3))) (
     gd (!(decide (i4=(0:Int)))) (
     some (Int.tmod (IntKind.i64.wrap (FA l2 (Int.toNat i3))) i4)))) (
     gd (!(decide (i4=(0:Int)))) (
     some (Int.tmod (IntKind.i64.wrap ((IntKind.i64.wrap (i3 * (37:Int)))+(11:Int))) i4))))
def f8.P:List Aa:=[EK,Cf,Cf]
def f8.A:AZ (Int):=.one ⟨[O3],[none,none,none]⟩ Gh
def f8.F (n:Nat) (v:JE):=let (a,b,c,d):=v;f8 n a b c d
def f8.O (n:Nat):BF:=AL (E:=E) [] [] n
theorem f8.ok:Bu 8 f8.P Bf f8.A f8.F:=Bv c8 f8.O
def f8.w:A7 E:=BL 8 f8.P Bf f8.A f8.F f8.ok
def f32:Nat→Int→Option (Int)
 | 0,_=>none
 | n+1,i1 =>
   some i1
def f32.P:List Aa:=[Cf]
def f32.A:AZ (Int):=.one ⟨[O3],[none]⟩ Gh
def f32.F (n:Nat) (v:Int):=f32 n v
def f32.O (n:Nat):BF:=AL (E:=E) [] [] n
theorem f32.ok:Bu 32 f32.P Gh f32.A f32.F:=Bv fN f32.O
def f32.w:A7 E:=BL 32 f32.P Gh f32.A f32.F f32.ok
def f29:Nat→Int→Int→Int→Option (Bool)
 | 0,_,_,_=>none
 | n+1,i1,i2,i3 =>
   br (decide (i2≤i1)) (
    some (decide (i1≤i3))) (
    some false)
def QQ:B4 (Int × Int × Int) where
 pk:=fun (a0,a1,a2)=>[.int a0,.int a1,.int a2]
 up:=fun ls=>match ls with
  | [.int a0,.int a1,.int a2]=>some (a0,a1,a2)
  | _=>none
def f29.P:List Aa:=[Cf,Cf,Cf]
def f29.A:AZ (Bool):=.one ⟨[CC],[none,none,none]⟩ Cq
def f29.F (n:Nat) (v:Int × Int × Int):=f29 n v.1 v.2.1 v.2.2
def f29.O (n:Nat):BF:=AL (E:=E) [] [] n
theorem f29.ok:Bu 29 f29.P QQ f29.A f29.F:=Bv iN f29.O
def f29.w:A7 E:=BL 29 f29.P QQ f29.A f29.F f29.ok
def f62:Nat→Int→Option (Bool)
 | 0,_=>none
 | n+1,i1 =>
   bd (f29 n i1 (1:Int) (8:Int)) fun r2 =>
   let b3:=r2
   some b3
def f62.P:List Aa:=[Cf]
def f62.A:AZ (Bool):=.one ⟨[CC],[none]⟩ Cq
def f62.F (n:Nat) (v:Int):=f62 n v
def f62.O (n:Nat):BF:=AL (E:=E) [f29.w] [] n
theorem f62.ok:Bu 62 f62.P Gh f62.A f62.F:=Bv fK f62.O
def f62.w:A7 E:=BL 62 f62.P Gh f62.A f62.F f62.ok
def f129:Nat→Int→Int→Nat→List T→Int→Int→Int→Option (Bool)
 | 0,_,_,_,_,_,_,_=>none
 | n+1,i1,i2,n3,l4,i5,i6,i7 =>
   bd (f29 n i2 i5 i6) fun r8 =>
   let b9:=r8
   br b9 (
    some ((n3:Int)==i7)) (
    some false)
def Pk:B4 (d8) where
 pk:=fun (a0,a1,a2,a3,a4,a5,a6)=>[.int a0,.int a1,.lst a2 a3,.int a4,.int a5,.int a6]
 up:=fun ls=>match ls with
  | [.int a0,.int a1,.lst a2 a3,.int a4,.int a5,.int a6]=>some (a0,a1,a2,a3,a4,a5,a6)
  | _=>none
def f129.P:List Aa:=[Yq,Cf,Cf,Cf]
def f129.A:AZ (Bool):=.one ⟨[CC],[none,none,none,none]⟩ Cq
def f129.F (n:Nat) (v:d8):=let (a,b,c,d,e,f,g):=v;f129 n a b c d e f g
def f129.O (n:Nat):BF:=AL (E:=E) [f29.w] [] n
theorem f129.ok:Bu 129 f129.P Pk f129.A f129.F:=Bv bN f129.O
def f129.w:A7 E:=BL 129 f129.P Pk f129.A f129.F f129.ok
def f160:Nat→Nat→Option (Bool)
 | 0,_=>none
 | n+1,x1 =>
   some (RQ .f32 (BW .f32 x1 x1) 0)
def f160.P:List Aa:=[EX]
def f160.A:AZ (Bool):=.one ⟨[CC],[none]⟩ Cq
def f160.F (n:Nat) (v:Nat):=f160 n v
def f160.O (n:Nat):BF:=AL (E:=E) [] [] n
theorem f160.ok:Bu 160 f160.P BH f160.A f160.F:=Bv Z7 f160.O
def f160.w:A7 E:=BL 160 f160.P BH f160.A f160.F f160.ok
def f130:Nat→Nat→Option (Bool)
 | 0,_=>none
 | n+1,x1 =>
   bd (f160 n x1) fun r2 =>
   let b3:=r2
   br b3 (
    some (H2 .f32 x1 0)) (
    some false)
def f130.P:List Aa:=[EX]
def f130.A:AZ (Bool):=.one ⟨[CC],[none]⟩ Cq
def f130.F (n:Nat) (v:Nat):=f130 n v
def f130.O (n:Nat):BF:=AL (E:=E) [f160.w] [] n
theorem f130.ok:Bu 130 f130.P BH f130.A f130.F:=Bv ba f130.O
def f130.w:A7 E:=BL 130 f130.P BH f130.A f130.F f130.ok
def f99:Nat→Int→Int→Nat→List T→Option (Bool)
 | 0,_,_,_,_=>none
 | n+1,i1,i2,n3,l4 =>
   br (i1==(0:Int)) (
    br (i1==(0:Int)) (
     bd (f129 n i1 i2 n3 l4 (0:Int) (0:Int) (1:Int)) fun r5 =>
     let b6:=r5
     some b6) (
     br (i1==(1:Int)) (
      bd (f129 n i1 i2 n3 l4 (0:Int) (0:Int) (5:Int)) fun r7 =>
      let b8:=r7
      some b8) (
      br (i1==(2:Int)) (
       bd (f129 n i1 i2 n3 l4 (1:Int) (32:Int) (2:Int)) fun r9 =>
       let b10:=r9
       some b10) (
       br (i1==(3:Int)) (
        bd (f129 n i1 i2 n3 l4 (0:Int) (0:Int) (4:Int)) fun r11 =>
        let b12:=r11
        some b12) (
        br (i1==(5:Int)) (
         bd (f129 n i1 i2 n3 l4 (0:Int) (0:Int) (0:Int)) fun r13 =>
         let b14:=r13
         some b14) (
         br (i1==(6:Int)) (
          bd (f129 n i1 i2 n3 l4 (0:Int) (32:Int) (2:Int)) fun r15 =>
          let b16:=r15
          br b16 (
           gd ((decide ((0≤(0:Int))∧((0:Int)<(n3:Int))))&&(AR [(.flt .f32)] l4 0)) (
           bd (f130 n (CY l4 0)) fun r17 =>
           let b18:=r17
           some b18)) (
           some false)) (
          some false))))))) (
    br (i1==(4:Int)) (
     bd (f129 n i1 i2 n3 l4 (0:Int) (0:Int) (1:Int)) fun r19 =>
     let b20:=r19
     some b20) (
     br (i1==(1:Int)) (
      bd (f129 n i1 i2 n3 l4 (0:Int) (0:Int) (5:Int)) fun r21 =>
      let b22:=r21
      some b22) (
      br (i1==(2:Int)) (
       bd (f129 n i1 i2 n3 l4 (1:Int) (32:Int) (2:Int)) fun r23 =>
       let b24:=r23
       some b24) (
       br (i1==(3:Int)) (
        bd (f129 n i1 i2 n3 l4 (0:Int) (0:Int) (4:Int)) fun r25 =>
        let b26:=r25
        some b26) (
        br (i1==(5:Int)) (
         bd (f129 n i1 i2 n3 l4 (0:Int) (0:Int) (0:Int)) fun r27 =>
         let b28:=r27
         some b28) (
         br (i1==(6:Int)) (
          bd (f129 n i1 i2 n3 l4 (0:Int) (32:Int) (2:Int)) fun r29 =>
          let b30:=r29
          br b30 (
           gd ((decide ((0≤(0:Int))∧((0:Int)<(n3:Int))))&&(AR [(.flt .f32)] l4 0)) (
           bd (f130 n (CY l4 0)) fun r31 =>
           let b32:=r31
           some b32)) (
           some false)) (
          some false)))))))
def HQ:B4 (Te) where
 pk:=fun (a0,a1,a2,a3)=>[.int a0,.int a1,.lst a2 a3]
 up:=fun ls=>match ls with
  | [.int a0,.int a1,.lst a2 a3]=>some (a0,a1,a2,a3)
  | _=>none
def f99.P:List Aa:=[Yq]
def f99.A:AZ (Bool):=.one ⟨[CC],[none]⟩ Cq
def f99.F (n:Nat) (v:Te):=let (a,b,c,d):=v;f99 n a b c d
def f99.O (n:Nat):BF:=AL (E:=E) [f129.w,f130.w] [] n
theorem f99.ok:Bu 99 f99.P HQ f99.A f99.F:=Bv fS f99.O
def f99.w:A7 E:=BL 99 f99.P HQ f99.A f99.F f99.ok
def f63.l0 (n:Nat):Nat→Nat→List T→Nat→List T→Int→Int→Option ((Bool) ⊕ (Unit))
 | 0,_,_,_,_,_,_=>none
 | m+1,n1,l2,n3,l4,i5,i6 =>
   br (decide (i6<i5)) (
    gd ((decide ((0≤i6)∧(i6<(n3:Int))))&&(AR [(.int .i64),(.int .i64),.lst] l4 (((Int.toNat i6) * 3)+0))) (
    let i7:=(FA l4 (((Int.toNat i6) * 3)+0))
    let i8:=(FA l4 ((((Int.toNat i6) * 3)+0)+1))
    let n9:=(HP l4 (((((Int.toNat i6) * 3)+0)+1)+1))
    let l10:=(H1 l4 (((((Int.toNat i6) * 3)+0)+1)+1))
    bd (f99 n i7 i8 n9 l10) fun r11 =>
    let b12:=r11
    br (!b12) (
     some (Sum.inl false)) (
     f63.l0 n m n1 l2 n3 l4 i5 (IntKind.i64.wrap (i6+(1:Int)))))) (
    some (Sum.inr ()))
def f63:Nat→Nat→List T→Option (Bool)
 | 0,_,_=>none
 | n+1,n1,l2 =>
   br (decide ((n1:Int)>(8:Int))) (
    some false) (
    bd (f63.l0 n n n1 l2 n1 l2 (n1:Int) (0:Int)) fun r3 =>
    sm r3 (fun u4 =>
     let b5:=u4
     some b5) (fun u6 =>
     some true))
def sg:B4 (Unit) where
 pk:=fun v=>[]
 up:=fun ls=>match ls with
  | []=>some ()
  | _=>none
def f63.l0.P:AS:=⟨[(0,JC),(8,JC),(9,An),(10,An)],0⟩
def f63.l0.A:Fy ((Bool) ⊕ (Unit)):=.or (.one .ret ⟨[(2,Kl)],0⟩ Cq) (.one (.exit 0) ⟨[(2,.dead)],0⟩ sg)
def f63.l0.F (n m:Nat) (v:NY):=let (a,b,c,d,e,f):=v;f63.l0 n m a b c d e f
def f63.l0.W (n:Nat):GT:=.of 64 f63.l0.P C6 f63.l0.A (f63.l0.F n n)
def f63.P:List Aa:=[V8]
def f63.A:AZ (Bool):=.one ⟨[CC],[none]⟩ Cq
def f63.F (n:Nat) (v:Nat × List T):=f63 n v.1 v.2
def f63.O (n:Nat):BF:=AL (E:=E) [f99.w] [f63.l0.W n] n
theorem f63.l0.ok:∀ n,HO 63 eW 0 n (f63.O n):=Hi f63.l0.P C6 f63.l0.A f63.l0.F
theorem f63.ok:Bu 63 f63.P Bp f63.A f63.F:=Bv eW f63.O [Ap eW 0] (fun n=>(.cons (f63.l0.ok n) .nil))
def f63.w:A7 E:=BL 63 f63.P Bp f63.A f63.F f63.ok
def f64:Nat→Int→Option (Bool)
 | 0,_=>none
 | n+1,i1 =>
   bd (f29 n i1 (-2000:Int) (2000:Int)) fun r2 =>
   let b3:=r2
   some b3
def f64.P:List Aa:=[Cf]
def f64.A:AZ (Bool):=.one ⟨[CC],[none]⟩ Cq
def f64.F (n:Nat) (v:Int):=f64 n v
def f64.O (n:Nat):BF:=AL (E:=E) [f29.w] [] n
theorem f64.ok:Bu 64 f64.P Gh f64.A f64.F:=Bv gp f64.O
def f64.w:A7 E:=BL 64 f64.P Gh f64.A f64.F f64.ok
def f65:Nat→Nat→Option (Bool)
 | 0,_=>none
 | n+1,x1 =>
   br (LH .f32 x1 0) (
    some (UM .f32 x1 1065353216)) (
    some false)
def f65.P:List Aa:=[EX]
def f65.A:AZ (Bool):=.one ⟨[CC],[none]⟩ Cq
def f65.F (n:Nat) (v:Nat):=f65 n v
def f65.O (n:Nat):BF:=AL (E:=E) [] [] n
theorem f65.ok:Bu 65 f65.P BH f65.A f65.F:=Bv iK f65.O
def f65.w:A7 E:=BL 65 f65.P BH f65.A f65.F f65.ok
def f25.l0 (n:Nat):Nat→Nat→List T→Nat→List T→Nat→List T→Int→Int→Option ((Bool) ⊕ (DZ))
 | 0,_,_,_,_,_,_,_,_=>none
 | m+1,n1,l2,n3,l4,n5,l6,i7,i8 =>
   br (decide (i8<i7)) (
    gd ((decide ((0≤i8)∧(i8<(n5:Int))))&&(AR [.lst,(.int .i64),(.flt .f32),.bool,.bool] l6 (((Int.toNat i8) * 5)+0))) (
    let n9:=(HP l6 (((Int.toNat i8) * 5)+0))
    let l10:=(H1 l6 (((Int.toNat i8) * 5)+0))
    let i11:=(FA l6 ((((Int.toNat i8) * 5)+0)+1))
    let x12:=(CY l6 (((((Int.toNat i8) * 5)+0)+1)+1))
    let b13:=(KD l6 ((((((Int.toNat i8) * 5)+0)+1)+1)+1))
    let b14:=(KD l6 (((((((Int.toNat i8) * 5)+0)+1)+1)+1)+1))
    bd (f63 n n9 l10) fun r15 =>
    let b16:=r15
    br (!b16) (
     some (Sum.inl false)) (
     bd (f64 n i11) fun r17 =>
     let b18:=r17
     br (!b18) (
      some (Sum.inl false)) (
      bd (f65 n x12) fun r19 =>
      let b20:=r19
      br (!b20) (
       some (Sum.inl false)) (
       f25.l0 n m n1 l2 n3 l4 n5 l6 i7 (IntKind.i64.wrap (i8+(1:Int)))))))) (
    some (Sum.inr (n1,l2,n3,l4)))
def f31:Nat→Int→Int→Option (Bool)
 | 0,_,_=>none
 | n+1,i1,i2 =>
   bd (f29 n i1 (0:Int) (IntKind.i64.wrap (i2 - (1:Int)))) fun r3 =>
   let b4:=r3
   some b4
def Sw:B4 (Int × Int) where
 pk:=fun (a0,a1)=>[.int a0,.int a1]
 up:=fun ls=>match ls with
  | [.int a0,.int a1]=>some (a0,a1)
  | _=>none
def f31.P:List Aa:=[Cf,Cf]
def f31.A:AZ (Bool):=.one ⟨[CC],[none,none]⟩ Cq
def f31.F (n:Nat) (v:Int × Int):=f31 n v.1 v.2
def f31.O (n:Nat):BF:=AL (E:=E) [f29.w] [] n
theorem f31.ok:Bu 31 f31.P Sw f31.A f31.F:=Bv fL f31.O
def f31.w:A7 E:=BL 31 f31.P Sw f31.A f31.F f31.ok
def f26:Nat→Int→Option (Bool)
 | 0,_=>none
 | n+1,i1 =>
   bd (f29 n i1 (0:Int) (256:Int)) fun r2 =>
   let b3:=r2
   some b3
def f26.P:List Aa:=[Cf]
def f26.A:AZ (Bool):=.one ⟨[CC],[none]⟩ Cq
def f26.F (n:Nat) (v:Int):=f26 n v
def f26.O (n:Nat):BF:=AL (E:=E) [f29.w] [] n
theorem f26.ok:Bu 26 f26.P Gh f26.A f26.F:=Bv iM f26.O
def f26.w:A7 E:=BL 26 f26.P Gh f26.A f26.F f26.ok
def f66:Nat→Nat→List T→Option (Bool)
 | 0,_,_=>none
 | n+1,n1,l2 =>
   some (decide ((n1:Int)≤(256:Int)))
def f66.P:List Aa:=[EK]
def f66.A:AZ (Bool):=.one ⟨[CC],[none]⟩ Cq
def f66.F (n:Nat) (v:Nat × List T):=f66 n v.1 v.2
def f66.O (n:Nat):BF:=AL (E:=E) [] [] n
theorem f66.ok:Bu 66 f66.P Bp f66.A f66.F:=Bv ia f66.O
def f66.w:A7 E:=BL 66 f66.P Bp f66.A f66.F f66.ok
def f25.l1 (n:Nat):Nat→Nat→List T→Nat→List T→Nat→List T→Int→Int→Option ((Bool) ⊕ (Unit))
 | 0,_,_,_,_,_,_,_,_=>none
 | m+1,n1,l2,n3,l4,n5,l6,i7,i8 =>
   br (decide (i8<i7)) (
    gd ((decide ((0≤i8)∧(i8<(n5:Int))))&&(AR [(.int .i64),(.int .i64),.lst] l6 (((Int.toNat i8) * 3)+0))) (
    let i9:=(FA l6 (((Int.toNat i8) * 3)+0))
    let i10:=(FA l6 ((((Int.toNat i8) * 3)+0)+1))
    let n11:=(HP l6 (((((Int.toNat i8) * 3)+0)+1)+1))
    let l12:=(H1 l6 (((((Int.toNat i8) * 3)+0)+1)+1))
    bd (f31 n i9 (n3:Int)) fun r13 =>
    let b14:=r13
    br (!b14) (
     some (Sum.inl false)) (
     bd (f26 n i10) fun r15 =>
     let b16:=r15
     br (!b16) (
      some (Sum.inl false)) (
      bd (f66 n n11 l12) fun r17 =>
      let b18:=r17
      br (!b18) (
       some (Sum.inl false)) (
       f25.l1 n m n1 l2 n3 l4 n5 l6 i7 (IntKind.i64.wrap (i8+(1:Int)))))))) (
    some (Sum.inr ()))
def f25:Nat→Nat→List T→Nat→List T→Option (Bool)
 | 0,_,_,_,_=>none
 | n+1,n1,l2,n3,l4 =>
   bd (f32 n (n3:Int)) fun r5 =>
   let i6:=r5
   bd (f62 n i6) fun r7 =>
   let b8:=r7
   br (!b8) (
    some false) (
    br (decide ((n1:Int)>(12:Int))) (
     some false) (
     bd (f25.l0 n n n1 l2 n3 l4 n3 l4 (n3:Int) (0:Int)) fun r9 =>
     sm r9 (fun u10 =>
      let b11:=u10
      some b11) (fun u12 =>
      let n13:=u12.1
      let l14:=u12.2.1
      let n15:=u12.2.2.1
      let l16:=u12.2.2.2
      bd (f25.l1 n n n13 l14 n15 l16 n13 l14 (n13:Int) (0:Int)) fun r17 =>
      sm r17 (fun u18 =>
       let b19:=u18
       some b19) (fun u20 =>
       some true))))
def f25.l0.P:AS:=⟨[(1,Og),(20,aB),(21,An),(22,An)],0⟩
def f25.l0.A:Fy ((Bool) ⊕ (DZ)):=.or (.one .ret ⟨[(1,.dead),(2,Kl),(69,.dead)],0⟩ Cq) (.one (.exit 0) ⟨[(1,Og),(2,.dead),(69,.dead)],0⟩ CN)
def f25.l0.F (n m:Nat) (v:Re):=let (a,b,c,d,e,f,g,h):=v;f25.l0 n m a b c d e f g h
def f25.l0.W (n:Nat):GT:=.of 64 f25.l0.P DG f25.l0.A (f25.l0.F n n)
def f25.l1.P:AS:=⟨[(1,Og),(44,JC),(45,An),(46,An)],0⟩
def f25.l1.A:Fy ((Bool) ⊕ (Unit)):=.or (.one .ret ⟨[(2,Kl)],0⟩ Cq) (.one (.exit 2) ⟨[(2,.dead)],0⟩ sg)
def f25.l1.F (n m:Nat) (v:Re):=let (a,b,c,d,e,f,g,h):=v;f25.l1 n m a b c d e f g h
def f25.l1.W (n:Nat):GT:=.of 160 f25.l1.P DG f25.l1.A (f25.l1.F n n)
def f25.P:List Aa:=[SN]
def f25.A:AZ (Bool):=.one ⟨[CC],[none]⟩ Cq
def f25.F (n:Nat) (v:DZ):=let (a,b,c,d):=v;f25 n a b c d
def f25.O (n:Nat):BF:=AL (E:=E) [f32.w,f62.w,f63.w,f64.w,f65.w,f31.w,f26.w,f66.w] [f25.l0.W n,f25.l1.W n] n
theorem f25.l0.ok:∀ n,HO 25 an 0 n (f25.O n):=Hi f25.l0.P DG f25.l0.A f25.l0.F
theorem f25.l1.ok:∀ n,HO 25 an 1 n (f25.O n):=Hi f25.l1.P DG f25.l1.A f25.l1.F
theorem f25.ok:Bu 25 f25.P CN f25.A f25.F:=Bv an f25.O [Ap an 0,Ap an 1] (fun n=>(.cons (f25.l0.ok n) (.cons (f25.l1.ok n) .nil)))
def f25.w:A7 E:=BL 25 f25.P CN f25.A f25.F f25.ok
def f70:Nat→Int→Option (Nat × List T)
 | 0,_=>none
 | n+1,i1 =>
   gd (decide ((0≤i1)∧(i1≤(2147483648:Int)))) (
   some ((Int.toNat i1),(reps (Int.toNat i1) [(T.flt .f32 0)])))
def f70.P:List Aa:=[Cf]
def f70.A:AZ (Nat × List T):=.one ⟨[EZ],[none]⟩ Bp
def f70.F (n:Nat) (v:Int):=f70 n v
def f70.O (n:Nat):BF:=AL (E:=E) [] [] n
theorem f70.ok:Bu 70 f70.P Gh f70.A f70.F:=Bv gH f70.O
def f70.w:A7 E:=BL 70 f70.P Gh f70.A f70.F f70.ok
def f101:Nat→Int→Int→Nat→List T→Option (Nat × List T)
 | 0,_,_,_,_=>none
 | n+1,i1,i2,n3,l4 =>
   br (i1==(1:Int)) (
    bd (f70 n (2:Int)) fun r5 =>
    let n6:=r5.1
    let l7:=r5.2
    some (n6,l7)) (
    br (i1==(2:Int)) (
     bd (f70 n i2) fun r8 =>
     let n9:=r8.1
     let l10:=r8.2
     some (n9,l10)) (
     br (i1==(3:Int)) (
      bd (f70 n (1:Int)) fun r11 =>
      let n12:=r11.1
      let l13:=r11.2
      some (n12,l13)) (
      br (i1==(6:Int)) (
       bd (f70 n i2) fun r14 =>
       let n15:=r14.1
       let l16:=r14.2
       gd (Nat.ble (1+n15) 2147483648) (
       some ((1+n15),((AF (reps 1 [(T.flt .f32 0)]) 0 [(T.flt .f32 1065353216)])++l16)))) (
       some (0,[])))))
def f101.P:List Aa:=[Yq]
def f101.A:AZ (Nat × List T):=.one ⟨[EZ],[none]⟩ Bp
def f101.F (n:Nat) (v:Te):=let (a,b,c,d):=v;f101 n a b c d
def f101.O (n:Nat):BF:=AL (E:=E) [f70.w] [] n
theorem f101.ok:Bu 101 f101.P HQ f101.A f101.F:=Bv bQ f101.O
def f101.w:A7 E:=BL 101 f101.P HQ f101.A f101.F f101.ok
def f68.l0 (n:Nat):Nat→Nat→List T→Nat→List T→Nat→List T→Int→Int→Option (Nat × List T)
 | 0,_,_,_,_,_,_,_,_=>none
 | m+1,n1,l2,n3,l4,n5,l6,i7,i8 =>
   br (decide (i8<i7)) (
    gd ((decide ((0≤i8)∧(i8<(n5:Int))))&&(AR [(.int .i64),(.int .i64),.lst] l6 (((Int.toNat i8) * 3)+0))) (
    let i9:=(FA l6 (((Int.toNat i8) * 3)+0))
    let i10:=(FA l6 ((((Int.toNat i8) * 3)+0)+1))
    let n11:=(HP l6 (((((Int.toNat i8) * 3)+0)+1)+1))
    let l12:=(H1 l6 (((((Int.toNat i8) * 3)+0)+1)+1))
    bd (f101 n i9 i10 n11 l12) fun r13 =>
    let n14:=r13.1
    let l15:=r13.2
    gd (Nat.ble (n3+1) 2147483648) (
    let n16:=(n3+1)
    let l17:=(l4++(AF (reps 1 [(T.lst 0 [])]) 0 [(T.lst n14 l15)]))
    f68.l0 n m n1 l2 n16 l17 n5 l6 i7 (IntKind.i64.wrap (i8+(1:Int)))))) (
    some (n3,l4))
def f68:Nat→Nat→List T→Option (Nat × List T)
 | 0,_,_=>none
 | n+1,n1,l2 =>
   bd (f68.l0 n n n1 l2 0 [] n1 l2 (n1:Int) (0:Int)) fun r3 =>
   let n4:=r3.1
   let l5:=r3.2
   some (n4,l5)
def f68.l0.P:AS:=⟨[(0,JC),(3,ZL),(6,JC),(7,An),(8,An)],0⟩
def f68.l0.A:Fy (Nat × List T):=.one (.exit 0) ⟨[(3,ZL)],0⟩ Bp
def f68.l0.F (n m:Nat) (v:Re):=let (a,b,c,d,e,f,g,h):=v;f68.l0 n m a b c d e f g h
def f68.l0.W (n:Nat):GT:=.of 48 f68.l0.P DG f68.l0.A (f68.l0.F n n)
def f68.P:List Aa:=[V8]
def f68.A:AZ (Nat × List T):=.one ⟨[⟨false,[.sl .own [.sl .own [.leaf]]],[.lst 0 []]⟩],[none]⟩ Bp
def f68.F (n:Nat) (v:Nat × List T):=f68 n v.1 v.2
def f68.O (n:Nat):BF:=AL (E:=E) [f101.w] [f68.l0.W n] n
theorem f68.l0.ok:∀ n,HO 68 eB 0 n (f68.O n):=Hi f68.l0.P DG f68.l0.A f68.l0.F
theorem f68.ok:Bu 68 f68.P Bp f68.A f68.F:=Bv eB f68.O [Ap eB 0] (fun n=>(.cons (f68.l0.ok n) .nil))
def f68.w:A7 E:=BL 68 f68.P Bp f68.A f68.F f68.ok
def f69.l1 (n:Nat):Nat→Int→Int→Int→Nat→List T→Nat→List T→Nat→List T→Int→Int→Nat→List T→Nat→List T→Int→Int→Nat→List T→Int→Int→Option (fB)
 | 0,_,_,_,_,_,_,_,_,_,_,_,_,_,_,_,_,_,_,_,_,_=>none
 | m+1,i1,i2,i3,n4,l5,n6,l7,n8,l9,i10,i11,n12,l13,n14,l15,i16,i17,n18,l19,i20,i21 =>
   br (decide (i21<i20)) (
    gd ((decide ((0≤i21)∧(i21<(n18:Int))))&&(AR [(.flt .f32)] l19 (Int.toNat i21))) (
    let x22:=(CY l19 (Int.toNat i21))
    let i23:=(IntKind.i64.wrap ((IntKind.i64.wrap (i11+i21)) - i2))
    bd (f29 n i23 (0:Int) (IntKind.i64.wrap (i3 - (1:Int)))) fun r24 =>
    let b25:=r24
    br b25 (
     gd (decide ((0≤i23)∧(i23<(n8:Int)))) (
     gd (AR [(.flt .f32)] l9 (Int.toNat i23)) (
     gd (decide ((0≤i23)∧(i23<(n8:Int)))) (
     gd (Nat.ble ((Int.toNat i23)+1) (List.length l9)) (
     let l26:=(AF l9 (Int.toNat i23) [(T.flt .f32 (BD .f32 (CY l9 (Int.toNat i23)) x22))])
     f69.l1 n m i1 i2 i3 n4 l5 n6 l7 n8 l26 i10 i11 n12 l13 n14 l15 i16 i17 n18 l19 i20 (IntKind.i64.wrap (i21+(1:Int)))))))) (
     f69.l1 n m i1 i2 i3 n4 l5 n6 l7 n8 l9 i10 i11 n12 l13 n14 l15 i16 i17 n18 l19 i20 (IntKind.i64.wrap (i21+(1:Int)))))) (
    some (i1,i2,i3,n4,l5,n6,l7,n8,l9,n14,l15,i16,i17))
termination_by structural x=>x
def f69.l0 (n:Nat):Nat→Int→Int→Int→Nat→List T→Nat→List T→Nat→List T→Nat→List T→Int→Int→Option (Nat × List T)
 | 0,_,_,_,_,_,_,_,_,_,_,_,_,_=>none
 | m+1,i1,i2,i3,n4,l5,n6,l7,n8,l9,n10,l11,i12,i13 =>
   br (decide (i13<i12)) (
    gd ((decide ((0≤i13)∧(i13<(n10:Int))))&&(AR [(.int .i64),(.int .i64),.lst] l11 (((Int.toNat i13) * 3)+0))) (
    let i14:=(FA l11 (((Int.toNat i13) * 3)+0))
    let i15:=(FA l11 ((((Int.toNat i13) * 3)+0)+1))
    let n16:=(HP l11 (((((Int.toNat i13) * 3)+0)+1)+1))
    let l17:=(H1 l11 (((((Int.toNat i13) * 3)+0)+1)+1))
    br (i14 != i1) (
     f69.l0 n m i1 i2 i3 n4 l5 n6 l7 n8 l9 n10 l11 i12 (IntKind.i64.wrap (i13+(1:Int)))) (
     bd (f69.l1 n n i1 i2 i3 n4 l5 n6 l7 n8 l9 i14 i15 n16 l17 n10 l11 i12 i13 n16 l17 (n16:Int) (0:Int)) fun r18 =>
     let i19:=r18.1
     let i20:=r18.2.1
     let i21:=r18.2.2.1
     let n22:=r18.2.2.2.1
     let l23:=r18.2.2.2.2.1
     let n24:=r18.2.2.2.2.2.1
     let l25:=r18.2.2.2.2.2.2.1
     let n26:=r18.2.2.2.2.2.2.2.1
     let l27:=r18.2.2.2.2.2.2.2.2.1
     let n28:=r18.2.2.2.2.2.2.2.2.2.1
     let l29:=r18.2.2.2.2.2.2.2.2.2.2.1
     let i30:=r18.2.2.2.2.2.2.2.2.2.2.2.1
     let i31:=r18.2.2.2.2.2.2.2.2.2.2.2.2
     f69.l0 n m i19 i20 i21 n22 l23 n24 l25 n26 l27 n28 l29 i30 (IntKind.i64.wrap (i31+(1:Int)))))) (
    some (n8,l9))
termination_by structural x=>x
def f69:Nat→Nat→List T→Nat→List T→Int→Int→Int→Option (Nat × List T)
 | 0,_,_,_,_,_,_,_=>none
 | n+1,n1,l2,n3,l4,i5,i6,i7 =>
   bd (f70 n i7) fun r8 =>
   let n9:=r8.1
   let l10:=r8.2
   bd (f69.l0 n n i5 i6 i7 n1 l2 n3 l4 n9 l10 n1 l2 (n1:Int) (0:Int)) fun r11 =>
   let n12:=r11.1
   let l13:=r11.2
   some (n12,l13)
def HF:B4 (Ym) where
 pk:=fun (a0,a1,a2,a3,a4,a5,a6)=>[.lst a0 a1,.lst a2 a3,.int a4,.int a5,.int a6]
 up:=fun ls=>match ls with
  | [.lst a0 a1,.lst a2 a3,.int a4,.int a5,.int a6]=>some (a0,a1,a2,a3,a4,a5,a6)
  | _=>none
def F5:B4 (it) where
 pk:=fun (a0,a1,a2,a3,a4,a5,a6,a7,a8,a9,a10,a11,a12,a13,a14,a15,a16,a17,a18,a19,a20)=>[.int a0,.int a1,.int a2,.lst a3 a4,.lst a5 a6,.lst a7 a8,.int a9,.int a10,.lst a11 a12,.lst a13 a14,.int a15,.int a16,.lst a17 a18,.int a19,.int a20]
 up:=fun ls=>match ls with
  | [.int a0,.int a1,.int a2,.lst a3 a4,.lst a5 a6,.lst a7 a8,.int a9,.int a10,.lst a11 a12,.lst a13 a14,.int a15,.int a16,.lst a17 a18,.int a19,.int a20]=>some (a0,a1,a2,a3,a4,a5,a6,a7,a8,a9,a10,a11,a12,a13,a14,a15,a16,a17,a18,a19,a20)
  | _=>none
def Ha:B4 (fB) where
 pk:=fun (a0,a1,a2,a3,a4,a5,a6,a7,a8,a9,a10,a11,a12)=>[.int a0,.int a1,.int a2,.lst a3 a4,.lst a5 a6,.lst a7 a8,.lst a9 a10,.int a11,.int a12]
 up:=fun ls=>match ls with
  | [.int a0,.int a1,.int a2,.lst a3 a4,.lst a5 a6,.lst a7 a8,.lst a9 a10,.int a11,.int a12]=>some (a0,a1,a2,a3,a4,a5,a6,a7,a8,a9,a10,a11,a12)
  | _=>none
def f69.l1.P:AS:=⟨[(1,An),(2,An),(3,An),(4,Og),(9,Ce),(11,.box [.leaf,.leaf,.sl .shr [.leaf]] [.int .i64 0,.int .i64 0,.lst 0 []] [] 0),(18,JC),(19,An),(20,An),(29,E1),(30,An),(31,An)],0⟩
def f69.l1.A:Fy (fB):=.one (.exit 2) ⟨[(1,An),(2,An),(3,An),(4,Og),(9,Ce),(18,JC),(19,An),(20,An),(53,.dead),(54,.dead)],0⟩ Ha
def f69.l1.F (n m:Nat) (v:it):=let (a,b,c,d,e,f,g,h,i,j,k,l,o,p,q,r,s,t,u,v,w):=v;f69.l1 n m a b c d e f g h i j k l o p q r s t u v w
def f69.l1.W (n:Nat):GT:=.of 112 f69.l1.P F5 f69.l1.A (f69.l1.F n n)
def f69.l0.P:AS:=⟨[(1,An),(2,An),(3,An),(4,Og),(9,Ce),(18,JC),(19,An),(20,An)],0⟩
def f69.l0.A:Fy (Nat × List T):=.one (.exit 0) ⟨[(9,Ce)],0⟩ Bp
def f69.l0.F (n m:Nat) (v:fB):=let (a,b,c,d,e,f,g,h,i,j,k,l,o):=v;f69.l0 n m a b c d e f g h i j k l o
def f69.l0.W (n:Nat):GT:=.of 48 f69.l0.P Ha f69.l0.A (f69.l0.F n n)
def f69.P:List Aa:=[SN,Cf,Cf,Cf]
def f69.A:AZ (Nat × List T):=.one ⟨[EZ],[none,none,none,none]⟩ Bp
def f69.F (n:Nat) (v:Ym):=let (a,b,c,d,e,f,g):=v;f69 n a b c d e f g
def f69.O (n:Nat):BF:=AL (E:=E) [f29.w,f70.w] [f69.l1.W n,f69.l0.W n] n
theorem f69.l1.ok:∀ n,HO 69 aJ 1 n (f69.O n):=Hi f69.l1.P F5 f69.l1.A f69.l1.F
theorem f69.l0.ok:∀ n,HO 69 aJ 0 n (f69.O n):=Hi f69.l0.P Ha f69.l0.A f69.l0.F [Ap aJ 1] (fun n=>(.cons (f69.l1.ok n) .nil))
theorem f69.ok:Bu 69 f69.P HF f69.A f69.F:=Bv aJ f69.O [Ap aJ 0] (fun n=>(.cons (f69.l0.ok n) .nil))
def f69.w:A7 E:=BL 69 f69.P HF f69.A f69.F f69.ok
def f34:Nat→Nat→List T→Option (Nat × List T)
 | 0,_,_=>none
 | n+1,n1,l2 =>
   gd (Nat.ble (0+n1) 2147483648) (
   some ((0+n1),((reps 0 [(T.flt .f32 0)])++l2)))
def f34.P:List Aa:=[EK]
def f34.A:AZ (Nat × List T):=.one ⟨[EZ],[none]⟩ Bp
def f34.F (n:Nat) (v:Nat × List T):=f34 n v.1 v.2
def f34.O (n:Nat):BF:=AL (E:=E) [] [] n
theorem f34.ok:Bu 34 f34.P Bp f34.A f34.F:=Bv gu f34.O
def f34.w:A7 E:=BL 34 f34.P Bp f34.A f34.F f34.ok
def f131.l0 (n:Nat):Nat→Nat→List T→Nat→Nat→List T→Nat→List T→Int→Int→Option (Nat × List T)
 | 0,_,_,_,_,_,_,_,_,_=>none
 | m+1,n1,l2,x3,n4,l5,n6,l7,i8,i9 =>
   br (decide (i9<i8)) (
    gd ((decide ((0≤i9)∧(i9<(n6:Int))))&&(AR [(.flt .f32)] l7 (Int.toNat i9))) (
    let x10:=(CY l7 (Int.toNat i9))
    gd (Nat.ble (n4+1) 2147483648) (
    let n11:=(n4+1)
    let l12:=(l5++(AF (reps 1 [(T.flt .f32 0)]) 0 [(T.flt .f32 (AT .f32 x10 x3))]))
    f131.l0 n m n1 l2 x3 n11 l12 n6 l7 i8 (IntKind.i64.wrap (i9+(1:Int)))))) (
    some (n4,l5))
def f131:Nat→Nat→List T→Nat→Option (Nat × List T)
 | 0,_,_,_=>none
 | n+1,n1,l2,x3 =>
   bd (f131.l0 n n n1 l2 x3 0 [] n1 l2 (n1:Int) (0:Int)) fun r4 =>
   let n5:=r4.1
   let l6:=r4.2
   some (n5,l6)
def Pt:B4 (Nat × List T × Nat) where
 pk:=fun (a0,a1,a2)=>[.lst a0 a1,.flt a2]
 up:=fun ls=>match ls with
  | [.lst a0 a1,.flt a2]=>some (a0,a1,a2)
  | _=>none
def I5:B4 (ap) where
 pk:=fun (a0,a1,a2,a3,a4,a5,a6,a7,a8)=>[.lst a0 a1,.flt a2,.lst a3 a4,.lst a5 a6,.int a7,.int a8]
 up:=fun ls=>match ls with
  | [.lst a0 a1,.flt a2,.lst a3 a4,.lst a5 a6,.int a7,.int a8]=>some (a0,a1,a2,a3,a4,a5,a6,a7,a8)
  | _=>none
def f131.l0.P:AS:=⟨[(0,E1),(1,Tq),(5,Ce),(8,E1),(9,An),(10,An)],0⟩
def f131.l0.A:Fy (Nat × List T):=.one (.exit 0) ⟨[(5,Ce)],0⟩ Bp
def f131.l0.F (n m:Nat) (v:ap):=let (a,b,c,d,e,f,g,h,i):=v;f131.l0 n m a b c d e f g h i
def f131.l0.W (n:Nat):GT:=.of 48 f131.l0.P I5 f131.l0.A (f131.l0.F n n)
def f131.P:List Aa:=[EK,EX]
def f131.A:AZ (Nat × List T):=.one ⟨[EZ],[none,none]⟩ Bp
def f131.F (n:Nat) (v:Nat × List T × Nat):=f131 n v.1 v.2.1 v.2.2
def f131.O (n:Nat):BF:=AL (E:=E) [] [f131.l0.W n] n
theorem f131.l0.ok:∀ n,HO 131 Xa 0 n (f131.O n):=Hi f131.l0.P I5 f131.l0.A f131.l0.F
theorem f131.ok:Bu 131 f131.P Pt f131.A f131.F:=Bv Xa f131.O [Ap Xa 0] (fun n=>(.cons (f131.l0.ok n) .nil))
def f131.w:A7 E:=BL 131 f131.P Pt f131.A f131.F f131.ok
def f162:Nat→Nat→Option (Bool)
 | 0,_=>none
 | n+1,x1 =>
   br (Uj .f32 x1 0) (
    br (flt .f32 x1 8388608) (
     some (H2 .f32 x1 2155872256)) (
     some false)) (
    some false)
def f162.P:List Aa:=[EX]
def f162.A:AZ (Bool):=.one ⟨[CC],[none]⟩ Cq
def f162.F (n:Nat) (v:Nat):=f162 n v
def f162.O (n:Nat):BF:=AL (E:=E) [] [] n
theorem f162.ok:Bu 162 f162.P BH f162.A f162.F:=Bv Z4 f162.O
def f162.w:A7 E:=BL 162 f162.P BH f162.A f162.F f162.ok
def f134:Nat→Nat→Option (Nat)
 | 0,_=>none
 | n+1,x1 =>
   bd (f162 n x1) fun r2 =>
   let b3:=r2
   br (!b3) (
    some x1) (
    bd ((Aj .f32 x1 .f64)) fun y4 =>
    bd (Ei n 0 y4) fun r5 =>
    let x6:=r5
    bd ((Aj .f64 x6 .f32)) fun y7 =>
    some y7)
def f134.P:List Aa:=[EX]
def f134.A:AZ (Nat):=.one ⟨[H4],[none]⟩ BH
def f134.F (n:Nat) (v:Nat):=f134 n v
def f134.O (n:Nat):BF:=AL (E:=E) [x163.w,f162.w] [] n
theorem f134.ok:Bu 134 f134.P BH f134.A f134.F:=Bv bV f134.O
def f134.w:A7 E:=BL 134 f134.P BH f134.A f134.F f134.ok
def f173:Nat→Nat→Bool→Option (Nat)
 | 0,_,_=>none
 | n+1,x1,b2 =>
   br b2 (
    bd (f134 n x1) fun r3 =>
    let x4:=r3
    some x4) (
    some x1)
def W8:B4 (Nat × Bool) where
 pk:=fun (a0,a1)=>[.flt a0,.bool a1]
 up:=fun ls=>match ls with
  | [.flt a0,.bool a1]=>some (a0,a1)
  | _=>none
def f173.P:List Aa:=[EX,YI]
def f173.A:AZ (Nat):=.one ⟨[H4],[none,none]⟩ BH
def f173.F (n:Nat) (v:Nat × Bool):=f173 n v.1 v.2
def f173.O (n:Nat):BF:=AL (E:=E) [f134.w] [] n
theorem f173.ok:Bu 173 f173.P W8 f173.A f173.F:=Bv af f173.O
def f173.w:A7 E:=BL 173 f173.P W8 f173.A f173.F f173.ok
def f161:Nat→Nat→Nat→Nat→Nat→Nat→Int→Bool→Nat→Nat→Nat→Nat→Nat→Option (aL)
 | 0,_,_,_,_,_,_,_,_,_,_,_,_=>none
 | n+1,x1,x2,x3,x4,x5,i6,b7,x8,x9,x10,x11,x12 =>
   br (i6==(0:Int)) (
    let x13:=(BW .f32 (BW .f32 (BD .f32 (BD .f32 (AT .f32 x1 x12) (AT .f32 x2 x8)) (AT .f32 x3 x9)) (AT .f32 x4 x10)) (AT .f32 x5 x11))
    bd (f173 n x13 b7) fun r14 =>
    let x15:=r14
    bd (f173 n x12 b7) fun r16 =>
    let x17:=r16
    bd (f173 n x8 b7) fun r18 =>
    let x19:=r18
    bd (f173 n x15 b7) fun r20 =>
    let x21:=r20
    bd (f173 n x10 b7) fun r22 =>
    let x23:=r22
    some (x15,x17,x19,x21,x23)) (
    br (i6==(1:Int)) (
     bd (f173 n (BD .f32 (AT .f32 x1 x12) x8) b7) fun r24 =>
     let x25:=r24
     let x26:=(BD .f32 (BW .f32 (AT .f32 x2 x12) (AT .f32 x4 x25)) x9)
     let x27:=(BW .f32 (AT .f32 x3 x12) (AT .f32 x5 x25))
     bd (f173 n x26 b7) fun r28 =>
     let x29:=r28
     bd (f173 n x27 b7) fun r30 =>
     let x31:=r30
     bd (f173 n 0 b7) fun r32 =>
     let x33:=r32
     bd (f173 n 0 b7) fun r34 =>
     let x35:=r34
     some (x25,x29,x31,x33,x35)) (
     bd (f173 n (BW .f32 (BW .f32 x12 (AT .f32 x4 x8)) (AT .f32 x5 x9)) b7) fun r36 =>
     let x37:=r36
     bd (f173 n (BD .f32 (BD .f32 (AT .f32 x1 x37) (AT .f32 x2 x8)) (AT .f32 x3 x9)) b7) fun r38 =>
     let x39:=r38
     bd (f173 n x37 b7) fun r40 =>
     let x41:=r40
     bd (f173 n x8 b7) fun r42 =>
     let x43:=r42
     bd (f173 n 0 b7) fun r44 =>
     let x45:=r44
     bd (f173 n 0 b7) fun r46 =>
     let x47:=r46
     some (x39,x41,x43,x45,x47)))
def Hv:B4 (eD) where
 pk:=fun (a0,a1,a2,a3,a4,a5,a6,a7,a8,a9,a10,a11)=>[.flt a0,.flt a1,.flt a2,.flt a3,.flt a4,.int a5,.bool a6,.flt a7,.flt a8,.flt a9,.flt a10,.flt a11]
 up:=fun ls=>match ls with
  | [.flt a0,.flt a1,.flt a2,.flt a3,.flt a4,.int a5,.bool a6,.flt a7,.flt a8,.flt a9,.flt a10,.flt a11]=>some (a0,a1,a2,a3,a4,a5,a6,a7,a8,a9,a10,a11)
  | _=>none
def W0:B4 (aL) where
 pk:=fun (a0,a1,a2,a3,a4)=>[.flt a0,.flt a1,.flt a2,.flt a3,.flt a4]
 up:=fun ls=>match ls with
  | [.flt a0,.flt a1,.flt a2,.flt a3,.flt a4]=>some (a0,a1,a2,a3,a4)
  | _=>none
def f161.P:List Aa:=[Zf,Cf,YI,⟨.val,ew⟩,EX]
def f161.A:AZ (aL):=.one ⟨[H4,ew],[none,none,none,none,none]⟩ W0
def f161.F (n:Nat) (v:eD):=let (a,b,c,d,e,f,g,h,i,j,k,l):=v;f161 n a b c d e f g h i j k l
def f161.O (n:Nat):BF:=AL (E:=E) [f173.w] [] n
theorem f161.ok:Bu 161 f161.P Hv f161.A f161.F:=Bv bz f161.O
def f161.w:A7 E:=BL 161 f161.P Hv f161.A f161.F f161.ok
def f132.l0 (n:Nat):Nat→Int→Bool→Nat→List T→Nat→Nat→Nat→Nat→Nat→Nat→Nat→Nat→Nat→Nat→Nat→Nat→Nat→Nat→List T→Nat→List T→Int→Int→Option (bo)
 | 0,_,_,_,_,_,_,_,_,_,_,_,_,_,_,_,_,_,_,_,_,_,_,_=>none
 | m+1,i1,b2,n3,l4,x5,x6,x7,x8,x9,x10,x11,x12,x13,x14,x15,x16,x17,n18,l19,n20,l21,i22,i23 =>
   br (decide (i23<i22)) (
    gd ((decide ((0≤i23)∧(i23<(n20:Int))))&&(AR [(.flt .f32)] l21 (Int.toNat i23))) (
    let x24:=(CY l21 (Int.toNat i23))
    bd (f161 n x5 x6 x7 x8 x9 i1 b2 x10 x11 x12 x13 x24) fun r25 =>
    let x26:=r25.1
    let x27:=r25.2.1
    let x28:=r25.2.2.1
    let x29:=r25.2.2.2.1
    let x30:=r25.2.2.2.2
    gd (Nat.ble (n18+1) 2147483648) (
    let n31:=(n18+1)
    let l32:=(l19++(AF (reps 1 [(T.flt .f32 0)]) 0 [(T.flt .f32 x26)]))
    f132.l0 n m i1 b2 n3 l4 x5 x6 x7 x8 x9 x27 x28 x29 x30 x14 x15 x16 x17 n31 l32 n20 l21 i22 (IntKind.i64.wrap (i23+(1:Int)))))) (
    some (x10,x11,x12,x13,x14,x15,x16,x17,n18,l19))
termination_by structural x=>x
def f132:Nat→Nat→Nat→Nat→Nat→Nat→Int→Bool→Nat→Nat→Nat→Nat→Nat→List T→Option (ak)
 | 0,_,_,_,_,_,_,_,_,_,_,_,_,_=>none
 | n+1,x1,x2,x3,x4,x5,i6,b7,x8,x9,x10,x11,n12,l13 =>
   bd (f132.l0 n n i6 b7 n12 l13 x1 x2 x3 x4 x5 x8 x9 x10 x11 0 0 0 0 0 [] n12 l13 (n12:Int) (0:Int)) fun r14 =>
   let x15:=r14.1
   let x16:=r14.2.1
   let x17:=r14.2.2.1
   let x18:=r14.2.2.2.1
   let n23:=r14.2.2.2.2.2.2.2.2.1
   let l24:=r14.2.2.2.2.2.2.2.2.2
   some (n23,l24,x15,x16,x17,x18)
def Hw:B4 (dp) where
 pk:=fun (a0,a1,a2,a3,a4,a5,a6,a7,a8,a9,a10,a11,a12)=>[.flt a0,.flt a1,.flt a2,.flt a3,.flt a4,.int a5,.bool a6,.flt a7,.flt a8,.flt a9,.flt a10,.lst a11 a12]
 up:=fun ls=>match ls with
  | [.flt a0,.flt a1,.flt a2,.flt a3,.flt a4,.int a5,.bool a6,.flt a7,.flt a8,.flt a9,.flt a10,.lst a11 a12]=>some (a0,a1,a2,a3,a4,a5,a6,a7,a8,a9,a10,a11,a12)
  | _=>none
def XB:B4 (ak) where
 pk:=fun (a0,a1,a2,a3,a4,a5)=>[.lst a0 a1,.flt a2,.flt a3,.flt a4,.flt a5]
 up:=fun ls=>match ls with
  | [.lst a0 a1,.flt a2,.flt a3,.flt a4,.flt a5]=>some (a0,a1,a2,a3,a4,a5)
  | _=>none
def D3:B4 (ip) where
 pk:=fun (a0,a1,a2,a3,a4,a5,a6,a7,a8,a9,a10,a11,a12,a13,a14,a15,a16,a17,a18,a19,a20,a21,a22)=>[.int a0,.bool a1,.lst a2 a3,.flt a4,.flt a5,.flt a6,.flt a7,.flt a8,.flt a9,.flt a10,.flt a11,.flt a12,.flt a13,.flt a14,.flt a15,.flt a16,.lst a17 a18,.lst a19 a20,.int a21,.int a22]
 up:=fun ls=>match ls with
  | [.int a0,.bool a1,.lst a2 a3,.flt a4,.flt a5,.flt a6,.flt a7,.flt a8,.flt a9,.flt a10,.flt a11,.flt a12,.flt a13,.flt a14,.flt a15,.flt a16,.lst a17 a18,.lst a19 a20,.int a21,.int a22]=>some (a0,a1,a2,a3,a4,a5,a6,a7,a8,a9,a10,a11,a12,a13,a14,a15,a16,a17,a18,a19,a20,a21,a22)
  | _=>none
def QZ:B4 (bo) where
 pk:=fun (a0,a1,a2,a3,a4,a5,a6,a7,a8,a9)=>[.flt a0,.flt a1,.flt a2,.flt a3,.flt a4,.flt a5,.flt a6,.flt a7,.lst a8 a9]
 up:=fun ls=>match ls with
  | [.flt a0,.flt a1,.flt a2,.flt a3,.flt a4,.flt a5,.flt a6,.flt a7,.lst a8 a9]=>some (a0,a1,a2,a3,a4,a5,a6,a7,a8,a9)
  | _=>none
def f132.l0.P:AS:=⟨[(1,An),(2,Kl),(4,E1),(5,Wu),(8,Y7),(11,Y7),(12,Ce),(17,E1),(18,An),(19,An)],0⟩
def f132.l0.A:Fy (bo):=.one (.exit 0) ⟨[(8,Y7),(11,Y7),(12,Ce)],0⟩ QZ
def f132.l0.F (n m:Nat) (v:ip):=let (a,b,c,d,e,f,g,h,i,j,k,l,o,p,q,r,s,t,u,v,w,x,y):=v;f132.l0 n m a b c d e f g h i j k l o p q r s t u v w x y
def f132.l0.W (n:Nat):GT:=.of 48 f132.l0.P D3 f132.l0.A (f132.l0.F n n)
def f132.P:List Aa:=[Zf,Cf,YI,⟨.val,ew⟩,EK]
def f132.A:AZ (ak):=.one ⟨[EZ,ew],[none,none,none,none,none]⟩ XB
def f132.F (n:Nat) (v:dp):=let (a,b,c,d,e,f,g,h,i,j,k,l,o):=v;f132 n a b c d e f g h i j k l o
def f132.O (n:Nat):BF:=AL (E:=E) [f161.w] [f132.l0.W n] n
theorem f132.l0.ok:∀ n,HO 132 Wz 0 n (f132.O n):=Hi f132.l0.P D3 f132.l0.A f132.l0.F
theorem f132.ok:Bu 132 f132.P Hw f132.A f132.F:=Bv Wz f132.O [Ap Wz 0] (fun n=>(.cons (f132.l0.ok n) .nil))
def f132.w:A7 E:=BL 132 f132.P Hw f132.A f132.F f132.ok
def f133:Nat→Nat→List T→Nat→Option (Nat × List T)
 | 0,_,_,_=>none
 | n+1,n1,l2,x3 =>
   gd (decide ((0≤(1:Int))∧(((1:Int)≤(n1:Int))∧((n1:Int)≤(n1:Int))))) (
   bd (f34 n (n1 - 1) (List.take (n1 - 1) (List.drop 1 l2))) fun r4 =>
   let n5:=r4.1
   let l6:=r4.2
   gd (Nat.ble (n5+1) 2147483648) (
   some ((n5+1),(l6++(AF (reps 1 [(T.flt .f32 0)]) 0 [(T.flt .f32 x3)])))))
def f133.P:List Aa:=[EK,EX]
def f133.A:AZ (Nat × List T):=.one ⟨[EZ],[none,none]⟩ Bp
def f133.F (n:Nat) (v:Nat × List T × Nat):=f133 n v.1 v.2.1 v.2.2
def f133.O (n:Nat):BF:=AL (E:=E) [f34.w] [] n
theorem f133.ok:Bu 133 f133.P Pt f133.A f133.F:=Bv Z3 f133.O
def f133.w:A7 E:=BL 133 f133.P Pt f133.A f133.F f133.ok
def f100.l0 (n:Nat):Nat→Nat→List T→Nat→List T→Nat→List T→Nat→List T→Nat→List T→Int→Int→Option (DZ)
 | 0,_,_,_,_,_,_,_,_,_,_,_,_=>none
 | m+1,n1,l2,n3,l4,n5,l6,n7,l8,n9,l10,i11,i12 =>
   br (decide (i12<i11)) (
    gd ((decide ((0≤i12)∧(i12<(n9:Int))))&&(AR [(.flt .f32)] l10 (Int.toNat i12))) (
    let x13:=(CY l10 (Int.toNat i12))
    gd (decide ((0≤(0:Int))∧((0:Int)<(n5:Int)))) (
    gd (AR [(.flt .f32)] l6 0) (
    let x14:=(CY l6 0)
    gd ((decide ((0≤(1:Int))∧((1:Int)<(n3:Int))))&&(AR [(.flt .f32)] l4 1)) (
    gd (Nat.ble (n7+1) 2147483648) (
    let n15:=(n7+1)
    let l16:=(l8++(AF (reps 1 [(T.flt .f32 0)]) 0 [(T.flt .f32 (BD .f32 x13 (AT .f32 (CY l4 1) x14)))]))
    gd ((decide ((0≤(0:Int))∧((0:Int)<(n3:Int))))&&(AR [(.flt .f32)] l4 0)) (
    bd (f134 n (BD .f32 x13 (AT .f32 (CY l4 0) x14))) fun r17 =>
    let x18:=r17
    bd (f133 n n5 l6 x18) fun r19 =>
    let n20:=r19.1
    let l21:=r19.2
    f100.l0 n m n1 l2 n3 l4 n20 l21 n15 l16 n9 l10 i11 (IntKind.i64.wrap (i12+(1:Int)))))))))) (
    some (n5,l6,n7,l8))
termination_by structural x=>x
def f177:Nat→Nat→Option (Nat)
 | 0,_=>none
 | n+1,x1 =>
   bd ((Aj .f32 x1 .f64)) fun y2 =>
   bd (Oe n y2) fun r3 =>
   let x4:=r3
   bd ((Aj .f64 x4 .f32)) fun y5 =>
   some y5
def f177.P:List Aa:=[EX]
def f177.A:AZ (Nat):=.one ⟨[H4],[none]⟩ BH
def f177.F (n:Nat) (v:Nat):=f177 n v
def f177.O (n:Nat):BF:=AL (E:=E) [x169.w] [] n
theorem f177.ok:Bu 177 f177.P BH f177.A f177.F:=Bv bm f177.O
def f177.w:A7 E:=BL 177 f177.P BH f177.A f177.F f177.ok
def f175:Nat→Nat→Nat→Nat→Nat→Option (Nat × Nat × Nat)
 | 0,_,_,_,_=>none
 | n+1,x1,x2,x3,x4 =>
   bd (f177 n x4) fun r5 =>
   let x6:=r5
   br (H2 .f32 x6 x3) (
    bd (f134 n (BD .f32 x3 (AT .f32 x1 (BW .f32 x6 x3)))) fun r7 =>
    let x8:=r7
    some (x1,x2,x8)) (
    bd (f134 n (BD .f32 x3 (AT .f32 x2 (BW .f32 x6 x3)))) fun r9 =>
    let x10:=r9
    some (x1,x2,x10))
def Uu:B4 (Nat × Nat × Nat × Nat) where
 pk:=fun (a0,a1,a2,a3)=>[.flt a0,.flt a1,.flt a2,.flt a3]
 up:=fun ls=>match ls with
  | [.flt a0,.flt a1,.flt a2,.flt a3]=>some (a0,a1,a2,a3)
  | _=>none
def NP:B4 (Nat × Nat × Nat) where
 pk:=fun (a0,a1,a2)=>[.flt a0,.flt a1,.flt a2]
 up:=fun ls=>match ls with
  | [.flt a0,.flt a1,.flt a2]=>some (a0,a1,a2)
  | _=>none
def f175.P:List Aa:=[⟨.iop,⟨false,[.rf .own [.leaf,.leaf,.leaf]],[.ref [.flt .f32 0,.flt .f32 0,.flt .f32 0]]⟩⟩,EX]
def f175.A:AZ (Nat × Nat × Nat):=.one ⟨[],[some ⟨false,[.rf .own [.leaf,.leaf,.leaf]],[.ref [.flt .f32 0,.flt .f32 0,.flt .f32 0]]⟩,none]⟩ NP
def f175.F (n:Nat) (v:Nat × Nat × Nat × Nat):=let (a,b,c,d):=v;f175 n a b c d
def f175.O (n:Nat):BF:=AL (E:=E) [f134.w,f177.w] [] n
theorem f175.ok:Bu 175 f175.P Uu f175.A f175.F:=Bv az f175.O
def f175.w:A7 E:=BL 175 f175.P Uu f175.A f175.F f175.ok
def f176:Nat→Nat→Nat→Nat→Option (Nat)
 | 0,_,_,_=>none
 | n+1,x1,x2,x3 =>
   br (!(H2 .f32 x1 x2)) (
    some 1065353216) (
    some (fdiv .f32 (BD .f32 x2 (fdiv .f32 (BW .f32 x1 x2) x3)) x1))
def f176.P:List Aa:=[EX,EX,EX]
def f176.A:AZ (Nat):=.one ⟨[H4],[none,none,none]⟩ BH
def f176.F (n:Nat) (v:Nat × Nat × Nat):=f176 n v.1 v.2.1 v.2.2
def f176.O (n:Nat):BF:=AL (E:=E) [] [] n
theorem f176.ok:Bu 176 f176.P NP f176.A f176.F:=Bv aT f176.O
def f176.w:A7 E:=BL 176 f176.P NP f176.A f176.F f176.ok
def f164.l0 (n:Nat):Nat→Nat→List T→Nat→List T→Nat→Nat→Nat→Nat→Nat→Nat→Nat→Nat→Nat→Nat→Nat→List T→Nat→List T→Int→Int→Option (bR)
 | 0,_,_,_,_,_,_,_,_,_,_,_,_,_,_,_,_,_,_,_,_=>none
 | m+1,n1,l2,n3,l4,x5,x6,x7,x8,x9,x10,x11,x12,x13,x14,n15,l16,n17,l18,i19,i20 =>
   br (decide (i20<i19)) (
    gd ((decide ((0≤i20)∧(i20<(n17:Int))))&&(AR [(.flt .f32)] l18 (Int.toNat i20))) (
    let x21:=(CY l18 (Int.toNat i20))
    gd ((decide ((0≤i20)∧(i20<(n3:Int))))&&(AR [(.flt .f32)] l4 (Int.toNat i20))) (
    bd (f175 n x5 x6 x7 (CY l4 (Int.toNat i20))) fun r22 =>
    let x23:=r22.1
    let x24:=r22.2.1
    let x25:=r22.2.2
    bd (f176 n x25 x8 x9) fun r26 =>
    let x27:=r26
    gd (Nat.ble (n15+1) 2147483648) (
    let n28:=(n15+1)
    let l29:=(l16++(AF (reps 1 [(T.flt .f32 0)]) 0 [(T.flt .f32 (AT .f32 x21 x27))]))
    f164.l0 n m n1 l2 n3 l4 x23 x24 x25 x8 x9 x10 x11 x12 x13 x14 n28 l29 n17 l18 i19 (IntKind.i64.wrap (i20+(1:Int))))))) (
    some (x5,x6,x7,x8,x9,x10,x11,x12,x13,x14,n15,l16))
termination_by structural x=>x
def f164:Nat→Nat→Nat→Nat→Nat→Nat→Nat→List T→Nat→List T→Option (WK)
 | 0,_,_,_,_,_,_,_,_,_=>none
 | n+1,x1,x2,x3,x4,x5,n6,l7,n8,l9 =>
   bd (f66 n n6 l7) fun r10 =>
   let b11:=r10
   br (!b11) (
    some (0,[],0,0,0,0,0,false)) (
    br ((n8:Int) != (n6:Int)) (
     some (0,[],0,0,0,0,0,false)) (
     bd (f164.l0 n n n6 l7 n8 l9 x1 x2 x3 x4 x5 0 0 0 0 0 0 [] n6 l7 (n6:Int) (0:Int)) fun r12 =>
     let x13:=r12.1
     let x14:=r12.2.1
     let x15:=r12.2.2.1
     let x16:=r12.2.2.2.1
     let x17:=r12.2.2.2.2.1
     let n23:=r12.2.2.2.2.2.2.2.2.2.2.1
     let l24:=r12.2.2.2.2.2.2.2.2.2.2.2
     some (n23,l24,x13,x14,x15,x16,x17,true)))
def Nh:B4 (eP) where
 pk:=fun (a0,a1,a2,a3,a4,a5,a6,a7,a8)=>[.flt a0,.flt a1,.flt a2,.flt a3,.flt a4,.lst a5 a6,.lst a7 a8]
 up:=fun ls=>match ls with
  | [.flt a0,.flt a1,.flt a2,.flt a3,.flt a4,.lst a5 a6,.lst a7 a8]=>some (a0,a1,a2,a3,a4,a5,a6,a7,a8)
  | _=>none
def ON:B4 (WK) where
 pk:=fun (a0,a1,a2,a3,a4,a5,a6,a7)=>[.lst a0 a1,.flt a2,.flt a3,.flt a4,.flt a5,.flt a6,.bool a7]
 up:=fun ls=>match ls with
  | [.lst a0 a1,.flt a2,.flt a3,.flt a4,.flt a5,.flt a6,.bool a7]=>some (a0,a1,a2,a3,a4,a5,a6,a7)
  | _=>none
def FQ:B4 (ir) where
 pk:=fun (a0,a1,a2,a3,a4,a5,a6,a7,a8,a9,a10,a11,a12,a13,a14,a15,a16,a17,a18,a19)=>[.lst a0 a1,.lst a2 a3,.flt a4,.flt a5,.flt a6,.flt a7,.flt a8,.flt a9,.flt a10,.flt a11,.flt a12,.flt a13,.lst a14 a15,.lst a16 a17,.int a18,.int a19]
 up:=fun ls=>match ls with
  | [.lst a0 a1,.lst a2 a3,.flt a4,.flt a5,.flt a6,.flt a7,.flt a8,.flt a9,.flt a10,.flt a11,.flt a12,.flt a13,.lst a14 a15,.lst a16 a17,.int a18,.int a19]=>some (a0,a1,a2,a3,a4,a5,a6,a7,a8,a9,a10,a11,a12,a13,a14,a15,a16,a17,a18,a19)
  | _=>none
def Mu:B4 (bR) where
 pk:=fun (a0,a1,a2,a3,a4,a5,a6,a7,a8,a9,a10,a11)=>[.flt a0,.flt a1,.flt a2,.flt a3,.flt a4,.flt a5,.flt a6,.flt a7,.flt a8,.flt a9,.lst a10 a11]
 up:=fun ls=>match ls with
  | [.flt a0,.flt a1,.flt a2,.flt a3,.flt a4,.flt a5,.flt a6,.flt a7,.flt a8,.flt a9,.lst a10 a11]=>some (a0,a1,a2,a3,a4,a5,a6,a7,a8,a9,a10,a11)
  | _=>none
def f164.l0.P:AS:=⟨[(1,E1),(2,E1),(3,Wu),(7,Wu),(9,Ce),(23,E1),(24,An),(25,An)],0⟩
def f164.l0.A:Fy (bR):=.one (.exit 0) ⟨[(3,Wu),(7,Wu),(9,Ce)],0⟩ Mu
def f164.l0.F (n m:Nat) (v:ir):=let (a,b,c,d,e,f,g,h,i,j,k,l,o,p,q,r,s,t,u,v):=v;f164.l0 n m a b c d e f g h i j k l o p q r s t u v
def f164.l0.W (n:Nat):GT:=.of 80 f164.l0.P FQ f164.l0.A (f164.l0.F n n)
def f164.P:List Aa:=[Zf,EK,EK]
def f164.A:AZ (WK):=.one ⟨[EZ,cx,CC],[none,none,none]⟩ ON
def f164.F (n:Nat) (v:eP):=let (a,b,c,d,e,f,g,h,i):=v;f164 n a b c d e f g h i
def f164.O (n:Nat):BF:=AL (E:=E) [f66.w,f175.w,f176.w] [f164.l0.W n] n
theorem f164.l0.ok:∀ n,HO 164 Xp 0 n (f164.O n):=Hi f164.l0.P FQ f164.l0.A f164.l0.F
theorem f164.ok:Bu 164 f164.P Nh f164.A f164.F:=Bv Xp f164.O [Ap Xp 0] (fun n=>(.cons (f164.l0.ok n) .nil))
def f164.w:A7 E:=BL 164 f164.P Nh f164.A f164.F f164.ok
def f135:Nat→Nat→Nat→Nat→Nat→Nat→Nat→List T→Option (WK)
 | 0,_,_,_,_,_,_,_=>none
 | n+1,x1,x2,x3,x4,x5,n6,l7 =>
   bd (f164 n x1 x2 x3 x4 x5 n6 l7 n6 l7) fun r8 =>
   let n9:=r8.1
   let l10:=r8.2.1
   let x11:=r8.2.2.1
   let x12:=r8.2.2.2.1
   let x13:=r8.2.2.2.2.1
   let x14:=r8.2.2.2.2.2.1
   let x15:=r8.2.2.2.2.2.2.1
   let b16:=r8.2.2.2.2.2.2.2
   some (n9,l10,x11,x12,x13,x14,x15,b16)
def Pv:B4 (cR) where
 pk:=fun (a0,a1,a2,a3,a4,a5,a6)=>[.flt a0,.flt a1,.flt a2,.flt a3,.flt a4,.lst a5 a6]
 up:=fun ls=>match ls with
  | [.flt a0,.flt a1,.flt a2,.flt a3,.flt a4,.lst a5 a6]=>some (a0,a1,a2,a3,a4,a5,a6)
  | _=>none
def f135.P:List Aa:=[Zf,EK]
def f135.A:AZ (WK):=.one ⟨[EZ,cx,CC],[none,none]⟩ ON
def f135.F (n:Nat) (v:cR):=let (a,b,c,d,e,f,g):=v;f135 n a b c d e f g
def f135.O (n:Nat):BF:=AL (E:=E) [f164.w] [] n
theorem f135.ok:Bu 135 f135.P Pv f135.A f135.F:=Bv bI f135.O
def f135.w:A7 E:=BL 135 f135.P Pv f135.A f135.F f135.ok
def f165:Nat→Nat→Nat→Option (Nat)
 | 0,_,_=>none
 | n+1,x1,x2 =>
   bd (f177 n x1) fun r3 =>
   let x4:=r3
   br (!(H2 .f32 x4 x2)) (
    some x1) (
    br (flt .f32 x1 0) (
     some (K7 .f32 x2)) (
     some x2))
def KG:B4 (Nat × Nat) where
 pk:=fun (a0,a1)=>[.flt a0,.flt a1]
 up:=fun ls=>match ls with
  | [.flt a0,.flt a1]=>some (a0,a1)
  | _=>none
def f165.P:List Aa:=[EX,EX]
def f165.A:AZ (Nat):=.one ⟨[H4],[none,none]⟩ BH
def f165.F (n:Nat) (v:Nat × Nat):=f165 n v.1 v.2
def f165.O (n:Nat):BF:=AL (E:=E) [f177.w] [] n
theorem f165.ok:Bu 165 f165.P KG f165.A f165.F:=Bv bK f165.O
def f165.w:A7 E:=BL 165 f165.P KG f165.A f165.F f165.ok
def f136.l0 (n:Nat):Nat→Nat→List T→Nat→Nat→List T→Nat→List T→Int→Int→Option (Nat × List T)
 | 0,_,_,_,_,_,_,_,_,_=>none
 | m+1,n1,l2,x3,n4,l5,n6,l7,i8,i9 =>
   br (decide (i9<i8)) (
    gd ((decide ((0≤i9)∧(i9<(n6:Int))))&&(AR [(.flt .f32)] l7 (Int.toNat i9))) (
    let x10:=(CY l7 (Int.toNat i9))
    bd (f165 n x10 x3) fun r11 =>
    let x12:=r11
    gd (Nat.ble (n4+1) 2147483648) (
    let n13:=(n4+1)
    let l14:=(l5++(AF (reps 1 [(T.flt .f32 0)]) 0 [(T.flt .f32 x12)]))
    f136.l0 n m n1 l2 x3 n13 l14 n6 l7 i8 (IntKind.i64.wrap (i9+(1:Int)))))) (
    some (n4,l5))
def f136:Nat→Nat→List T→Nat→Option (Nat × List T × Bool)
 | 0,_,_,_=>none
 | n+1,n1,l2,x3 =>
   bd (f66 n n1 l2) fun r4 =>
   let b5:=r4
   br (!b5) (
    some (0,[],false)) (
    bd (f136.l0 n n n1 l2 x3 0 [] n1 l2 (n1:Int) (0:Int)) fun r6 =>
    let n7:=r6.1
    let l8:=r6.2
    some (n7,l8,true))
def SE:B4 (Nat × List T × Bool) where
 pk:=fun (a0,a1,a2)=>[.lst a0 a1,.bool a2]
 up:=fun ls=>match ls with
  | [.lst a0 a1,.bool a2]=>some (a0,a1,a2)
  | _=>none
def f136.l0.P:AS:=⟨[(0,E1),(1,Tq),(6,Ce),(12,E1),(13,An),(14,An)],0⟩
def f136.l0.A:Fy (Nat × List T):=.one (.exit 0) ⟨[(6,Ce)],0⟩ Bp
def f136.l0.F (n m:Nat) (v:ap):=let (a,b,c,d,e,f,g,h,i):=v;f136.l0 n m a b c d e f g h i
def f136.l0.W (n:Nat):GT:=.of 80 f136.l0.P I5 f136.l0.A (f136.l0.F n n)
def f136.P:List Aa:=[EK,EX]
def f136.A:AZ (Nat × List T × Bool):=.one ⟨[EZ,CC],[none,none]⟩ SE
def f136.F (n:Nat) (v:Nat × List T × Nat):=f136 n v.1 v.2.1 v.2.2
def f136.O (n:Nat):BF:=AL (E:=E) [f66.w,f165.w] [f136.l0.W n] n
theorem f136.l0.ok:∀ n,HO 136 WY 0 n (f136.O n):=Hi f136.l0.P I5 f136.l0.A f136.l0.F
theorem f136.ok:Bu 136 f136.P Pt f136.A f136.F:=Bv WY f136.O [Ap WY 0] (fun n=>(.cons (f136.l0.ok n) .nil))
def f136.w:A7 E:=BL 136 f136.P Pt f136.A f136.F f136.ok
def f137:Nat→Nat→Option (Nat)
 | 0,_=>none
 | n+1,x1 =>
   br (LH .f32 x1 1065353216) (
    some 1065353216) (
    br (UM .f32 x1 3212836864) (
     some 3212836864) (
     some (AT .f32 x1 (BW .f32 1069547520 (AT .f32 1056964608 (AT .f32 x1 x1))))))
def f137.P:List Aa:=[EX]
def f137.A:AZ (Nat):=.one ⟨[H4],[none]⟩ BH
def f137.F (n:Nat) (v:Nat):=f137 n v
def f137.O (n:Nat):BF:=AL (E:=E) [] [] n
theorem f137.ok:Bu 137 f137.P BH f137.A f137.F:=Bv aS f137.O
def f137.w:A7 E:=BL 137 f137.P BH f137.A f137.F f137.ok
def f100.l1 (n:Nat):Nat→Nat→List T→Nat→List T→Nat→List T→Int→Int→Option (Nat × List T)
 | 0,_,_,_,_,_,_,_,_=>none
 | m+1,n1,l2,n3,l4,n5,l6,i7,i8 =>
   br (decide (i8<i7)) (
    gd ((decide ((0≤i8)∧(i8<(n5:Int))))&&(AR [(.flt .f32)] l6 (Int.toNat i8))) (
    let x9:=(CY l6 (Int.toNat i8))
    bd (f137 n x9) fun r10 =>
    let x11:=r10
    gd (Nat.ble (n3+1) 2147483648) (
    let n12:=(n3+1)
    let l13:=(l4++(AF (reps 1 [(T.flt .f32 0)]) 0 [(T.flt .f32 x11)]))
    f100.l1 n m n1 l2 n12 l13 n5 l6 i7 (IntKind.i64.wrap (i8+(1:Int)))))) (
    some (n3,l4))
def f166.l0 (n:Nat):Nat→Nat→List T→Nat→Nat→List T→Int→Int→Option (Nat)
 | 0,_,_,_,_,_,_,_=>none
 | m+1,n1,l2,x3,n4,l5,i6,i7 =>
   br (decide (i7<i6)) (
    gd ((decide ((0≤i7)∧(i7<(n4:Int))))&&(AR [(.flt .f32)] l5 (Int.toNat i7))) (
    let x8:=(CY l5 (Int.toNat i7))
    bd (f177 n x8) fun r9 =>
    let x10:=r9
    br (H2 .f32 x10 x3) (
     f166.l0 n m n1 l2 x10 n4 l5 i6 (IntKind.i64.wrap (i7+(1:Int)))) (
     f166.l0 n m n1 l2 x3 n4 l5 i6 (IntKind.i64.wrap (i7+(1:Int)))))) (
    some x3)
def f166:Nat→Nat→List T→Option (Nat)
 | 0,_,_=>none
 | n+1,n1,l2 =>
   bd (f166.l0 n n n1 l2 0 n1 l2 (n1:Int) (0:Int)) fun r3 =>
   let x4:=r3
   some x4
def S6:B4 (ch) where
 pk:=fun (a0,a1,a2,a3,a4,a5,a6)=>[.lst a0 a1,.flt a2,.lst a3 a4,.int a5,.int a6]
 up:=fun ls=>match ls with
  | [.lst a0 a1,.flt a2,.lst a3 a4,.int a5,.int a6]=>some (a0,a1,a2,a3,a4,a5,a6)
  | _=>none
def f166.l0.P:AS:=⟨[(0,E1),(3,Tq),(7,E1),(8,An),(9,An)],0⟩
def f166.l0.A:Fy (Nat):=.one (.exit 0) ⟨[(3,Tq)],0⟩ BH
def f166.l0.F (n m:Nat) (v:ch):=let (a,b,c,d,e,f,g):=v;f166.l0 n m a b c d e f g
def f166.l0.W (n:Nat):GT:=.of 48 f166.l0.P S6 f166.l0.A (f166.l0.F n n)
def f166.P:List Aa:=[EK]
def f166.A:AZ (Nat):=.one ⟨[H4],[none]⟩ BH
def f166.F (n:Nat) (v:Nat × List T):=f166 n v.1 v.2
def f166.O (n:Nat):BF:=AL (E:=E) [f177.w] [f166.l0.W n] n
theorem f166.l0.ok:∀ n,HO 166 Wf 0 n (f166.O n):=Hi f166.l0.P S6 f166.l0.A f166.l0.F
theorem f166.ok:Bu 166 f166.P Bp f166.A f166.F:=Bv Wf f166.O [Ap Wf 0] (fun n=>(.cons (f166.l0.ok n) .nil))
def f166.w:A7 E:=BL 166 f166.P Bp f166.A f166.F f166.ok
def f138.l0 (n:Nat):Nat→Nat→List T→Nat→Nat→Nat→Nat→List T→Nat→Nat→Nat→Nat→List T→Nat→List T→Nat→List T→Int→Int→Option (bD)
 | 0,_,_,_,_,_,_,_,_,_,_,_,_,_,_,_,_,_,_=>none
 | m+1,n1,l2,x3,x4,x5,n6,l7,x8,x9,x10,n11,l12,n13,l14,n15,l16,i17,i18 =>
   br (decide (i18<i17)) (
    gd ((decide ((0≤i18)∧(i18<(n15:Int))))&&(AR [(.flt .f32)] l16 (Int.toNat i18))) (
    let x19:=(CY l16 (Int.toNat i18))
    bd (f34 n n6 l7) fun r20 =>
    let n21:=r20.1
    let l22:=r20.2
    gd (Nat.ble (n21+1) 2147483648) (
    let n23:=(n21+1)
    let l24:=(l22++(AF (reps 1 [(T.flt .f32 0)]) 0 [(T.flt .f32 x19)]))
    bd (f166 n n23 l24) fun r25 =>
    let x26:=r25
    br (H2 .f32 x26 x3) (
     let x27:=(fdiv .f32 x3 x26)
     let x28:=(BD .f32 x5 x4)
     br (flt .f32 x27 x28) (
      gd (decide ((0≤(1:Int))∧(((1:Int)≤(n23:Int))∧((n23:Int)≤(n23:Int))))) (
      let n29:=(n23 - 1)
      let l30:=(List.take (n23 - 1) (List.drop 1 l24))
      gd ((decide ((0≤(0:Int))∧((0:Int)<(n23:Int))))&&(AR [(.flt .f32)] l24 0)) (
      bd (f165 n (AT .f32 (CY l24 0) x27) x3) fun r31 =>
      let x32:=r31
      gd (Nat.ble (n13+1) 2147483648) (
      let n33:=(n13+1)
      let l34:=(l14++(AF (reps 1 [(T.flt .f32 0)]) 0 [(T.flt .f32 x32)]))
      f138.l0 n m n1 l2 x3 x4 x27 n29 l30 x8 x9 x10 n11 l12 n33 l34 n15 l16 i17 (IntKind.i64.wrap (i18+(1:Int))))))) (
      br (Uj .f32 x28 x28) (
       gd (decide ((0≤(1:Int))∧(((1:Int)≤(n23:Int))∧((n23:Int)≤(n23:Int))))) (
       let n35:=(n23 - 1)
       let l36:=(List.take (n23 - 1) (List.drop 1 l24))
       gd ((decide ((0≤(0:Int))∧((0:Int)<(n23:Int))))&&(AR [(.flt .f32)] l24 0)) (
       bd (f165 n (AT .f32 (CY l24 0) x27) x3) fun r37 =>
       let x38:=r37
       gd (Nat.ble (n13+1) 2147483648) (
       let n39:=(n13+1)
       let l40:=(l14++(AF (reps 1 [(T.flt .f32 0)]) 0 [(T.flt .f32 x38)]))
       f138.l0 n m n1 l2 x3 x4 x27 n35 l36 x8 x9 x10 n11 l12 n39 l40 n15 l16 i17 (IntKind.i64.wrap (i18+(1:Int))))))) (
       gd (decide ((0≤(1:Int))∧(((1:Int)≤(n23:Int))∧((n23:Int)≤(n23:Int))))) (
       let n41:=(n23 - 1)
       let l42:=(List.take (n23 - 1) (List.drop 1 l24))
       gd ((decide ((0≤(0:Int))∧((0:Int)<(n23:Int))))&&(AR [(.flt .f32)] l24 0)) (
       bd (f165 n (AT .f32 (CY l24 0) x28) x3) fun r43 =>
       let x44:=r43
       gd (Nat.ble (n13+1) 2147483648) (
       let n45:=(n13+1)
       let l46:=(l14++(AF (reps 1 [(T.flt .f32 0)]) 0 [(T.flt .f32 x44)]))
       f138.l0 n m n1 l2 x3 x4 x28 n41 l42 x8 x9 x10 n11 l12 n45 l46 n15 l16 i17 (IntKind.i64.wrap (i18+(1:Int))))))))) (
     let x47:=(BD .f32 x5 x4)
     br (flt .f32 1065353216 x47) (
      gd (decide ((0≤(1:Int))∧(((1:Int)≤(n23:Int))∧((n23:Int)≤(n23:Int))))) (
      let n48:=(n23 - 1)
      let l49:=(List.take (n23 - 1) (List.drop 1 l24))
      gd ((decide ((0≤(0:Int))∧((0:Int)<(n23:Int))))&&(AR [(.flt .f32)] l24 0)) (
      bd (f165 n (AT .f32 (CY l24 0) 1065353216) x3) fun r50 =>
      let x51:=r50
      gd (Nat.ble (n13+1) 2147483648) (
      let n52:=(n13+1)
      let l53:=(l14++(AF (reps 1 [(T.flt .f32 0)]) 0 [(T.flt .f32 x51)]))
      f138.l0 n m n1 l2 x3 x4 1065353216 n48 l49 x8 x9 x10 n11 l12 n52 l53 n15 l16 i17 (IntKind.i64.wrap (i18+(1:Int))))))) (
      br (Uj .f32 x47 x47) (
       gd (decide ((0≤(1:Int))∧(((1:Int)≤(n23:Int))∧((n23:Int)≤(n23:Int))))) (
       let n54:=(n23 - 1)
       let l55:=(List.take (n23 - 1) (List.drop 1 l24))
       gd ((decide ((0≤(0:Int))∧((0:Int)<(n23:Int))))&&(AR [(.flt .f32)] l24 0)) (
       bd (f165 n (AT .f32 (CY l24 0) 1065353216) x3) fun r56 =>
       let x57:=r56
       gd (Nat.ble (n13+1) 2147483648) (
       let n58:=(n13+1)
       let l59:=(l14++(AF (reps 1 [(T.flt .f32 0)]) 0 [(T.flt .f32 x57)]))
       f138.l0 n m n1 l2 x3 x4 1065353216 n54 l55 x8 x9 x10 n11 l12 n58 l59 n15 l16 i17 (IntKind.i64.wrap (i18+(1:Int))))))) (
       gd (decide ((0≤(1:Int))∧(((1:Int)≤(n23:Int))∧((n23:Int)≤(n23:Int))))) (
       let n60:=(n23 - 1)
       let l61:=(List.take (n23 - 1) (List.drop 1 l24))
       gd ((decide ((0≤(0:Int))∧((0:Int)<(n23:Int))))&&(AR [(.flt .f32)] l24 0)) (
       bd (f165 n (AT .f32 (CY l24 0) x47) x3) fun r62 =>
       let x63:=r62
       gd (Nat.ble (n13+1) 2147483648) (
       let n64:=(n13+1)
       let l65:=(l14++(AF (reps 1 [(T.flt .f32 0)]) 0 [(T.flt .f32 x63)]))
       f138.l0 n m n1 l2 x3 x4 x47 n60 l61 x8 x9 x10 n11 l12 n64 l65 n15 l16 i17 (IntKind.i64.wrap (i18+(1:Int)))))))))))) (
    some (x3,x4,x5,n6,l7,x8,x9,x10,n11,l12,n13,l14))
termination_by structural x=>x
def f138:Nat→Nat→Nat→Nat→Nat→List T→Nat→List T→Option (aD)
 | 0,_,_,_,_,_,_,_=>none
 | n+1,x1,x2,x3,n4,l5,n6,l7 =>
   bd (f130 n x1) fun r8 =>
   let b9:=r8
   br (!b9) (
    some (0,[],0,0,0,0,[],false)) (
    br (decide ((n4:Int)>(64:Int))) (
     some (0,[],0,0,0,0,[],false)) (
     bd (f66 n n6 l7) fun r10 =>
     let b11:=r10
     br (!b11) (
      some (0,[],0,0,0,0,[],false)) (
      bd (f34 n n4 l5) fun r12 =>
      let n13:=r12.1
      let l14:=r12.2
      bd (f138.l0 n n n6 l7 x1 x2 x3 n13 l14 0 0 0 0 [] 0 [] n6 l7 (n6:Int) (0:Int)) fun r15 =>
      let x16:=r15.1
      let x17:=r15.2.1
      let x18:=r15.2.2.1
      let n19:=r15.2.2.2.1
      let l20:=r15.2.2.2.2.1
      let n26:=r15.2.2.2.2.2.2.2.2.2.2.1
      let l27:=r15.2.2.2.2.2.2.2.2.2.2.2
      bd (f34 n n19 l20) fun r28 =>
      let n29:=r28.1
      let l30:=r28.2
      some (n26,l27,x16,x17,x18,n29,l30,true))))
def RZ:B4 (ep) where
 pk:=fun (a0,a1,a2,a3,a4,a5,a6)=>[.flt a0,.flt a1,.flt a2,.lst a3 a4,.lst a5 a6]
 up:=fun ls=>match ls with
  | [.flt a0,.flt a1,.flt a2,.lst a3 a4,.lst a5 a6]=>some (a0,a1,a2,a3,a4,a5,a6)
  | _=>none
def V6:B4 (aD) where
 pk:=fun (a0,a1,a2,a3,a4,a5,a6,a7)=>[.lst a0 a1,.flt a2,.flt a3,.flt a4,.lst a5 a6,.bool a7]
 up:=fun ls=>match ls with
  | [.lst a0 a1,.flt a2,.flt a3,.flt a4,.lst a5 a6,.bool a7]=>some (a0,a1,a2,a3,a4,a5,a6,a7)
  | _=>none
def HI:B4 (im) where
 pk:=fun (a0,a1,a2,a3,a4,a5,a6,a7,a8,a9,a10,a11,a12,a13,a14,a15,a16,a17)=>[.lst a0 a1,.flt a2,.flt a3,.flt a4,.lst a5 a6,.flt a7,.flt a8,.flt a9,.lst a10 a11,.lst a12 a13,.lst a14 a15,.int a16,.int a17]
 up:=fun ls=>match ls with
  | [.lst a0 a1,.flt a2,.flt a3,.flt a4,.lst a5 a6,.flt a7,.flt a8,.flt a9,.lst a10 a11,.lst a12 a13,.lst a14 a15,.int a16,.int a17]=>some (a0,a1,a2,a3,a4,a5,a6,a7,a8,a9,a10,a11,a12,a13,a14,a15,a16,a17)
  | _=>none
def RP:B4 (bD) where
 pk:=fun (a0,a1,a2,a3,a4,a5,a6,a7,a8,a9,a10,a11)=>[.flt a0,.flt a1,.flt a2,.lst a3 a4,.flt a5,.flt a6,.flt a7,.lst a8 a9,.lst a10 a11]
 up:=fun ls=>match ls with
  | [.flt a0,.flt a1,.flt a2,.lst a3 a4,.flt a5,.flt a6,.flt a7,.lst a8 a9,.lst a10 a11]=>some (a0,a1,a2,a3,a4,a5,a6,a7,a8,a9,a10,a11)
  | _=>none
def f138.l0.P:AS:=⟨[(1,E1),(2,.box [.leaf,.leaf,.leaf,.sl .shr [.leaf]] [.flt .f32 0,.flt .f32 0,.flt .f32 0,.lst 0 []] [] 0),(5,.box [.leaf,.leaf,.leaf,.sl .own [.leaf]] [.flt .f32 0,.flt .f32 0,.flt .f32 0,.lst 0 []] [] 0),(7,Ce),(34,E1),(35,An),(36,An)],0⟩
def f138.l0.A:Fy (bD):=.one (.exit 0) ⟨[(2,.box [.leaf,.leaf,.leaf,.sl .shr [.leaf]] [.flt .f32 0,.flt .f32 0,.flt .f32 0,.lst 0 []] [] 0),(5,.box [.leaf,.leaf,.leaf,.sl .own [.leaf]] [.flt .f32 0,.flt .f32 0,.flt .f32 0,.lst 0 []] [] 0),(7,Ce)],0⟩ RP
def f138.l0.F (n m:Nat) (v:im):=let (a,b,c,d,e,f,g,h,i,j,k,l,o,p,q,r,s,t):=v;f138.l0 n m a b c d e f g h i j k l o p q r s t
def f138.l0.W (n:Nat):GT:=.of 96 f138.l0.P HI f138.l0.A (f138.l0.F n n)
def f138.P:List Aa:=[⟨.val,⟨true,[.leaf,.leaf,.leaf,.sl .shr [.leaf]],[.flt .f32 0,.flt .f32 0,.flt .f32 0,.lst 0 []]⟩⟩,EK]
def f138.A:AZ (aD):=.one ⟨[EZ,⟨true,[.leaf,.leaf,.leaf,.sl .own [.leaf]],[.flt .f32 0,.flt .f32 0,.flt .f32 0,.lst 0 []]⟩,CC],[none,none]⟩ V6
def f138.F (n:Nat) (v:ep):=let (a,b,c,d,e,f,g):=v;f138 n a b c d e f g
def f138.O (n:Nat):BF:=AL (E:=E) [f130.w,f66.w,f34.w,f165.w,f166.w] [f138.l0.W n] n
theorem f138.l0.ok:∀ n,HO 138 WW 0 n (f138.O n):=Hi f138.l0.P HI f138.l0.A f138.l0.F
theorem f138.ok:Bu 138 f138.P RZ f138.A f138.F:=Bv WW f138.O [Ap WW 0] (fun n=>(.cons (f138.l0.ok n) .nil))
def f138.w:A7 E:=BL 138 f138.P RZ f138.A f138.F f138.ok
def f100:Nat→Int→Int→Nat→List T→Nat→List T→Nat→List T→Option (DZ)
 | 0,_,_,_,_,_,_,_,_=>none
 | n+1,i1,i2,n3,l4,n5,l6,n7,l8 =>
   br (i1==(0:Int)) (
    gd ((decide ((0≤(0:Int))∧((0:Int)<(n3:Int))))&&(AR [(.flt .f32)] l4 0)) (
    bd (f131 n n7 l8 (CY l4 0)) fun r9 =>
    let n10:=r9.1
    let l11:=r9.2
    some (n10,l11,0,[]))) (
    br (i1==(1:Int)) (
     gd ((decide ((0≤(0:Int))∧((0:Int)<(n3:Int))))&&(AR [(.flt .f32)] l4 0)) (
     gd ((decide ((0≤(1:Int))∧((1:Int)<(n3:Int))))&&(AR [(.flt .f32)] l4 1)) (
     gd ((decide ((0≤(2:Int))∧((2:Int)<(n3:Int))))&&(AR [(.flt .f32)] l4 2)) (
     gd ((decide ((0≤(3:Int))∧((3:Int)<(n3:Int))))&&(AR [(.flt .f32)] l4 3)) (
     gd ((decide ((0≤(4:Int))∧((4:Int)<(n3:Int))))&&(AR [(.flt .f32)] l4 4)) (
     let x12:=(CY l4 0)
     let x13:=(CY l4 1)
     let x14:=(CY l4 2)
     let x15:=(CY l4 3)
     let x16:=(CY l4 4)
     gd ((decide ((0≤(0:Int))∧((0:Int)<(n5:Int))))&&(AR [(.flt .f32)] l6 0)) (
     gd ((decide ((0≤(1:Int))∧((1:Int)<(n5:Int))))&&(AR [(.flt .f32)] l6 1)) (
     bd (f132 n x12 x13 x14 x15 x16 (1:Int) true (CY l6 0) (CY l6 1) 0 0 n7 l8) fun r17 =>
     let n18:=r17.1
     let l19:=r17.2.1
     let x20:=r17.2.2.1
     let x21:=r17.2.2.2.1
     some (n18,l19,2,(AF (AF (reps 2 [(T.flt .f32 0)]) 0 [(T.flt .f32 x20)]) 1 [(T.flt .f32 x21)])))))))))) (
     br (i1==(2:Int)) (
      bd (f34 n n5 l6) fun r24 =>
      let n25:=r24.1
      let l26:=r24.2
      bd (f100.l0 n n n7 l8 n3 l4 n25 l26 0 [] n7 l8 (n7:Int) (0:Int)) fun r27 =>
      let n28:=r27.1
      let l29:=r27.2.1
      let n30:=r27.2.2.1
      let l31:=r27.2.2.2
      some (n30,l31,n28,l29)) (
      br (i1==(3:Int)) (
       gd ((decide ((0≤(0:Int))∧((0:Int)<(n3:Int))))&&(AR [(.flt .f32)] l4 0)) (
       gd ((decide ((0≤(1:Int))∧((1:Int)<(n3:Int))))&&(AR [(.flt .f32)] l4 1)) (
       gd ((decide ((0≤(0:Int))∧((0:Int)<(n5:Int))))&&(AR [(.flt .f32)] l6 0)) (
       gd ((decide ((0≤(2:Int))∧((2:Int)<(n3:Int))))&&(AR [(.flt .f32)] l4 2)) (
       gd ((decide ((0≤(3:Int))∧((3:Int)<(n3:Int))))&&(AR [(.flt .f32)] l4 3)) (
       let x32:=(CY l4 0)
       let x33:=(CY l4 1)
       let x34:=(CY l6 0)
       let x35:=(CY l4 2)
       let x36:=(CY l4 3)
       bd (f135 n x32 x33 x34 x35 x36 n7 l8) fun r37 =>
       let n38:=r37.1
       let l39:=r37.2.1
       let x42:=r37.2.2.2.2.1
       some (n38,l39,1,(AF (reps 1 [(T.flt .f32 0)]) 0 [(T.flt .f32 x42)])))))))) (
       br (i1==(4:Int)) (
        gd ((decide ((0≤(0:Int))∧((0:Int)<(n3:Int))))&&(AR [(.flt .f32)] l4 0)) (
        bd (f136 n n7 l8 (CY l4 0)) fun r46 =>
        let n47:=r46.1
        let l48:=r46.2.1
        some (n47,l48,0,[]))) (
        br (i1==(5:Int)) (
         bd (f100.l1 n n n7 l8 0 [] n7 l8 (n7:Int) (0:Int)) fun r50 =>
         let n51:=r50.1
         let l52:=r50.2
         some (n51,l52,0,[])) (
         gd ((decide ((0≤(0:Int))∧((0:Int)<(n3:Int))))&&(AR [(.flt .f32)] l4 0)) (
         gd ((decide ((0≤(1:Int))∧((1:Int)<(n3:Int))))&&(AR [(.flt .f32)] l4 1)) (
         gd ((decide ((0≤(0:Int))∧((0:Int)<(n5:Int))))&&(AR [(.flt .f32)] l6 0)) (
         gd (decide ((0≤(1:Int))∧(((1:Int)≤(n5:Int))∧((n5:Int)≤(n5:Int))))) (
         bd (f138 n (CY l4 0) (CY l4 1) (CY l6 0) (n5 - 1) (List.take (n5 - 1) (List.drop 1 l6)) n7 l8) fun r53 =>
         let n54:=r53.1
         let l55:=r53.2.1
         let x58:=r53.2.2.2.2.1
         let n59:=r53.2.2.2.2.2.1
         let l60:=r53.2.2.2.2.2.2.1
         gd (Nat.ble (1+n59) 2147483648) (
         some (n54,l55,(1+n59),((AF (reps 1 [(T.flt .f32 0)]) 0 [(T.flt .f32 x58)])++l60)))))))))))))
def Rs:B4 (em) where
 pk:=fun (a0,a1,a2,a3,a4,a5,a6,a7)=>[.int a0,.int a1,.lst a2 a3,.lst a4 a5,.lst a6 a7]
 up:=fun ls=>match ls with
  | [.int a0,.int a1,.lst a2 a3,.lst a4 a5,.lst a6 a7]=>some (a0,a1,a2,a3,a4,a5,a6,a7)
  | _=>none
def Hn:B4 (ac) where
 pk:=fun (a0,a1,a2,a3,a4,a5,a6,a7,a8,a9,a10,a11)=>[.lst a0 a1,.lst a2 a3,.lst a4 a5,.lst a6 a7,.lst a8 a9,.int a10,.int a11]
 up:=fun ls=>match ls with
  | [.lst a0 a1,.lst a2 a3,.lst a4 a5,.lst a6 a7,.lst a8 a9,.int a10,.int a11]=>some (a0,a1,a2,a3,a4,a5,a6,a7,a8,a9,a10,a11)
  | _=>none
def f100.l0.P:AS:=⟨[(2,E1),(8,E1),(12,Ce),(13,Ce),(80,E1),(81,An),(82,An)],0⟩
def f100.l0.A:Fy (DZ):=.one (.exit 1) ⟨[(12,Ce),(13,Ce)],0⟩ CN
def f100.l0.F (n m:Nat) (v:ac):=let (a,b,c,d,e,f,g,h,i,j,k,l):=v;f100.l0 n m a b c d e f g h i j k l
def f100.l0.W (n:Nat):GT:=.of 208 f100.l0.P Hn f100.l0.A (f100.l0.F n n)
def f100.l1.P:AS:=⟨[(2,E1),(22,Ce),(156,E1),(157,An),(158,An)],0⟩
def f100.l1.A:Fy (Nat × List T):=.one (.exit 3) ⟨[(22,Ce)],0⟩ Bp
def f100.l1.F (n m:Nat) (v:Re):=let (a,b,c,d,e,f,g,h):=v;f100.l1 n m a b c d e f g h
def f100.l1.W (n:Nat):GT:=.of 480 f100.l1.P DG f100.l1.A (f100.l1.F n n)
def f100.P:List Aa:=[Yq,EK,EK]
def f100.A:AZ (DZ):=.one ⟨[EZ,EZ],[none,none,none]⟩ CN
def f100.F (n:Nat) (v:em):=let (a,b,c,d,e,f,g,h):=v;f100 n a b c d e f g h
def f100.O (n:Nat):BF:=AL (E:=E) [f34.w,f131.w,f134.w,f132.w,f133.w,f135.w,f136.w,f137.w,f138.w] [f100.l0.W n,f100.l1.W n] n
theorem f100.l0.ok:∀ n,HO 100 Tf 0 n (f100.O n):=Hi f100.l0.P Hn f100.l0.A f100.l0.F
theorem f100.l1.ok:∀ n,HO 100 Tf 1 n (f100.O n):=Hi f100.l1.P DG f100.l1.A f100.l1.F
theorem f100.ok:Bu 100 f100.P Rs f100.A f100.F:=Bv Tf f100.O [Ap Tf 0,Ap Tf 1] (fun n=>(.cons (f100.l0.ok n) (.cons (f100.l1.ok n) .nil)))
def f100.w:A7 E:=BL 100 f100.P Rs f100.A f100.F f100.ok
def f67.l0 (n:Nat):Nat→Nat→List T→Nat→List T→Nat→List T→Nat→List T→Nat→List T→Int→Int→Option (DZ)
 | 0,_,_,_,_,_,_,_,_,_,_,_,_=>none
 | m+1,n1,l2,n3,l4,n5,l6,n7,l8,n9,l10,i11,i12 =>
   br (decide (i12<i11)) (
    gd ((decide ((0≤i12)∧(i12<(n9:Int))))&&(AR [(.int .i64),(.int .i64),.lst] l10 (((Int.toNat i12) * 3)+0))) (
    let i13:=(FA l10 (((Int.toNat i12) * 3)+0))
    let i14:=(FA l10 ((((Int.toNat i12) * 3)+0)+1))
    let n15:=(HP l10 (((((Int.toNat i12) * 3)+0)+1)+1))
    let l16:=(H1 l10 (((((Int.toNat i12) * 3)+0)+1)+1))
    gd ((decide ((0≤i12)∧(i12<(n3:Int))))&&(AR [.lst] l4 (Int.toNat i12))) (
    bd (f100 n i13 i14 n15 l16 (HP l4 (Int.toNat i12)) (H1 l4 (Int.toNat i12)) n5 l6) fun r17 =>
    let n18:=r17.1
    let l19:=r17.2.1
    let n20:=r17.2.2.1
    let l21:=r17.2.2.2
    gd (Nat.ble (n7+1) 2147483648) (
    let n22:=(n7+1)
    let l23:=(l8++(AF (reps 1 [(T.lst 0 [])]) 0 [(T.lst n20 l21)]))
    f67.l0 n m n1 l2 n3 l4 n18 l19 n22 l23 n9 l10 i11 (IntKind.i64.wrap (i12+(1:Int))))))) (
    some (n5,l6,n7,l8))
termination_by structural x=>x
def f67:Nat→Nat→List T→Nat→List T→Nat→List T→Option (DZ)
 | 0,_,_,_,_,_,_=>none
 | n+1,n1,l2,n3,l4,n5,l6 =>
   bd (f34 n n5 l6) fun r7 =>
   let n8:=r7.1
   let l9:=r7.2
   bd (f67.l0 n n n1 l2 n3 l4 n8 l9 0 [] n1 l2 (n1:Int) (0:Int)) fun r10 =>
   let n11:=r10.1
   let l12:=r10.2.1
   let n13:=r10.2.2.1
   let l14:=r10.2.2.2
   some (n11,l12,n13,l14)
def YO:B4 (eO) where
 pk:=fun (a0,a1,a2,a3,a4,a5)=>[.lst a0 a1,.lst a2 a3,.lst a4 a5]
 up:=fun ls=>match ls with
  | [.lst a0 a1,.lst a2 a3,.lst a4 a5]=>some (a0,a1,a2,a3,a4,a5)
  | _=>none
def f67.l0.P:AS:=⟨[(0,JC),(1,.val false [.sl .shr [.sl .shr [.leaf]]] [.lst 0 []] [] 0),(8,Ce),(9,ZL),(16,JC),(17,An),(18,An)],0⟩
def f67.l0.A:Fy (DZ):=.one (.exit 0) ⟨[(8,Ce),(9,ZL)],0⟩ CN
def f67.l0.F (n m:Nat) (v:ac):=let (a,b,c,d,e,f,g,h,i,j,k,l):=v;f67.l0 n m a b c d e f g h i j k l
def f67.l0.W (n:Nat):GT:=.of 64 f67.l0.P Hn f67.l0.A (f67.l0.F n n)
def f67.P:List Aa:=[V8,⟨.val,⟨false,[.sl .shr [.sl .shr [.leaf]]],[.lst 0 []]⟩⟩,EK]
def f67.A:AZ (DZ):=.one ⟨[EZ,⟨false,[.sl .own [.sl .own [.leaf]]],[.lst 0 []]⟩],[none,none,none]⟩ CN
def f67.F (n:Nat) (v:eO):=let (a,b,c,d,e,f):=v;f67 n a b c d e f
def f67.O (n:Nat):BF:=AL (E:=E) [f34.w,f100.w] [f67.l0.W n] n
theorem f67.l0.ok:∀ n,HO 67 dk 0 n (f67.O n):=Hi f67.l0.P Hn f67.l0.A f67.l0.F
theorem f67.ok:Bu 67 f67.P YO f67.A f67.F:=Bv dk f67.O [Ap dk 0] (fun n=>(.cons (f67.l0.ok n) .nil))
def f67.w:A7 E:=BL 67 f67.P YO f67.A f67.F f67.ok
def f27:Nat→Nat→List T→Nat→List T→Int→Int→Option (Nat × List T)
 | 0,_,_,_,_,_,_=>none
 | n+1,n1,l2,n3,l4,i5,i6 =>
   gd ((decide ((0≤i5)∧(i5<(n3:Int))))&&(AR [.lst,(.int .i64),(.flt .f32),.bool,.bool] l4 (((Int.toNat i5) * 5)+0))) (
   let n7:=(HP l4 (((Int.toNat i5) * 5)+0))
   let l8:=(H1 l4 (((Int.toNat i5) * 5)+0))
   bd (f68 n n7 l8) fun r9 =>
   let n10:=r9.1
   let l11:=r9.2
   bd (f69 n n1 l2 n3 l4 i5 (0:Int) i6) fun r12 =>
   let n13:=r12.1
   let l14:=r12.2
   bd (f67 n n7 l8 n10 l11 n13 l14) fun r15 =>
   let n16:=r15.1
   let l17:=r15.2.1
   some (n16,l17))
def f27.P:List Aa:=[SN,Cf,Cf]
def f27.A:AZ (Nat × List T):=.one ⟨[EZ],[none,none,none]⟩ Bp
def f27.F (n:Nat) (v:NY):=let (a,b,c,d,e,f):=v;f27 n a b c d e f
def f27.O (n:Nat):BF:=AL (E:=E) [f68.w,f69.w,f67.w] [] n
theorem f27.ok:Bu 27 f27.P C6 f27.A f27.F:=Bv ie f27.O
def f27.w:A7 E:=BL 27 f27.P C6 f27.A f27.F f27.ok
def f9.l0 (n:Nat):Nat→Int→Nat→List T→Nat→List T→Nat→List T→Nat→List T→Int→Int→Option (Int × Nat × List T)
 | 0,_,_,_,_,_,_,_,_,_,_,_=>none
 | m+1,i1,n2,l3,n4,l5,n6,l7,n8,l9,i10,i11 =>
   br (decide (i11<i10)) (
    gd ((decide ((0≤i11)∧(i11<(n8:Int))))&&(AR [.lst,(.int .i64),(.flt .f32),.bool,.bool] l9 (((Int.toNat i11) * 5)+0))) (
    let n12:=(HP l9 (((Int.toNat i11) * 5)+0))
    let l13:=(H1 l9 (((Int.toNat i11) * 5)+0))
    let i14:=(FA l9 ((((Int.toNat i11) * 5)+0)+1))
    let x15:=(CY l9 (((((Int.toNat i11) * 5)+0)+1)+1))
    let b16:=(KD l9 ((((((Int.toNat i11) * 5)+0)+1)+1)+1))
    let b17:=(KD l9 (((((((Int.toNat i11) * 5)+0)+1)+1)+1)+1))
    bd (f27 n n2 l3 n4 l5 i11 i1) fun r18 =>
    let n19:=r18.1
    let l20:=r18.2
    gd (Nat.ble (n6+1) 2147483648) (
    let n21:=(n6+1)
    let l22:=(l7++(AF (reps 1 [(T.lst 0 []),(T.int .i64 (0:Int)),(T.flt .f32 0),(T.bool false),(T.bool false)]) 0 (AF (AF (AF (AF (AF [(T.lst 0 []),(T.int .i64 (0:Int)),(T.flt .f32 0),(T.bool false),(T.bool false)] 0 [(T.lst n19 l20)]) 1 [(T.int .i64 i14)]) 2 [(T.flt .f32 x15)]) 3 [(T.bool b16)]) 4 [(T.bool b17)])))
    f9.l0 n m i1 n2 l3 n4 l5 n21 l22 n8 l9 i10 (IntKind.i64.wrap (i11+(1:Int)))))) (
    some (i1,n6,l7))
def f71.l0 (n:Nat):Nat→Nat→List T→Nat→List T→Nat→List T→Nat→List T→Int→Int→Option (DZ)
 | 0,_,_,_,_,_,_,_,_,_,_=>none
 | m+1,n1,l2,n3,l4,n5,l6,n7,l8,i9,i10 =>
   br (decide (i10<i9)) (
    gd ((decide ((0≤i10)∧(i10<(n7:Int))))&&(AR [.lst,(.int .i64),(.flt .f32),.bool,.bool] l8 (((Int.toNat i10) * 5)+0))) (
    let n11:=(HP l8 (((Int.toNat i10) * 5)+0))
    let l12:=(H1 l8 (((Int.toNat i10) * 5)+0))
    let i13:=(FA l8 ((((Int.toNat i10) * 5)+0)+1))
    let x14:=(CY l8 (((((Int.toNat i10) * 5)+0)+1)+1))
    let b15:=(KD l8 ((((((Int.toNat i10) * 5)+0)+1)+1)+1))
    let b16:=(KD l8 (((((((Int.toNat i10) * 5)+0)+1)+1)+1)+1))
    gd (Nat.ble (n3+1) 2147483648) (
    gd (Nat.ble (n5+1) 2147483648) (
    let n17:=(n3+1)
    let l18:=(l4++(AF (reps 1 [(T.bool false)]) 0 [(T.bool b15)]))
    let n19:=(n5+1)
    let l20:=(l6++(AF (reps 1 [(T.bool false)]) 0 [(T.bool b16)]))
    f71.l0 n m n1 l2 n17 l18 n19 l20 n7 l8 i9 (IntKind.i64.wrap (i10+(1:Int))))))) (
    some (n3,l4,n5,l6))
def f167.l0 (n:Nat):Nat→Nat→List T→Bool→Int→Int→Option ((Int) ⊕ (Unit))
 | 0,_,_,_,_,_=>none
 | m+1,n1,l2,b3,i4,i5 =>
   br (decide (i5<i4)) (
    gd ((decide ((0≤i5)∧(i5<(n1:Int))))&&(AR [.bool] l2 (Int.toNat i5))) (
    br (b3==(KD l2 (Int.toNat i5))) (
     some (Sum.inl i5)) (
     f167.l0 n m n1 l2 b3 i4 (IntKind.i64.wrap (i5+(1:Int)))))) (
    some (Sum.inr ()))
def f167:Nat→Nat→List T→Bool→Option (Int)
 | 0,_,_,_=>none
 | n+1,n1,l2,b3 =>
   bd (f167.l0 n n n1 l2 b3 (n1:Int) (0:Int)) fun r4 =>
   sm r4 (fun u5 =>
    let i6:=u5
    some i6) (fun u7 =>
    some (-1:Int))
def UY:B4 (er) where
 pk:=fun (a0,a1,a2,a3,a4)=>[.lst a0 a1,.bool a2,.int a3,.int a4]
 up:=fun ls=>match ls with
  | [.lst a0 a1,.bool a2,.int a3,.int a4]=>some (a0,a1,a2,a3,a4)
  | _=>none
def f167.l0.P:AS:=⟨[(0,E1),(1,Kl),(7,An),(8,An)],0⟩
def f167.l0.A:Fy ((Int) ⊕ (Unit)):=.or (.one .ret ⟨[(4,An)],0⟩ Gh) (.one (.exit 0) ⟨[(4,.dead)],0⟩ sg)
def f167.l0.F (n m:Nat) (v:er):=let (a,b,c,d,e):=v;f167.l0 n m a b c d e
def f167.l0.W (n:Nat):GT:=.of 32 f167.l0.P UY f167.l0.A (f167.l0.F n n)
def f167.P:List Aa:=[EK,YI]
def f167.A:AZ (Int):=.one ⟨[O3],[none,none]⟩ Gh
def f167.F (n:Nat) (v:Nat × List T × Bool):=f167 n v.1 v.2.1 v.2.2
def f167.O (n:Nat):BF:=AL (E:=E) [] [f167.l0.W n] n
theorem f167.l0.ok:∀ n,HO 167 XS 0 n (f167.O n):=Hi f167.l0.P UY f167.l0.A f167.l0.F
theorem f167.ok:Bu 167 f167.P SE f167.A f167.F:=Bv XS f167.O [Ap XS 0] (fun n=>(.cons (f167.l0.ok n) .nil))
def f167.w:A7 E:=BL 167 f167.P SE f167.A f167.F f167.ok
def f139:Nat→Nat→List T→Bool→Option (Bool)
 | 0,_,_,_=>none
 | n+1,n1,l2,b3 =>
   bd (f167 n n1 l2 b3) fun r4 =>
   let i5:=r4
   some (decide (i5≥(0:Int)))
def f139.P:List Aa:=[EK,YI]
def f139.A:AZ (Bool):=.one ⟨[CC],[none,none]⟩ Cq
def f139.F (n:Nat) (v:Nat × List T × Bool):=f139 n v.1 v.2.1 v.2.2
def f139.O (n:Nat):BF:=AL (E:=E) [f167.w] [] n
theorem f139.ok:Bu 139 f139.P SE f139.A f139.F:=Bv aX f139.O
def f139.w:A7 E:=BL 139 f139.P SE f139.A f139.F f139.ok
def f102.l0 (n:Nat):Nat→Nat→List T→Nat→List T→Bool→Nat→List T→Nat→List T→Int→Int→Option (Nat × List T)
 | 0,_,_,_,_,_,_,_,_,_,_,_=>none
 | m+1,n1,l2,n3,l4,b5,n6,l7,n8,l9,i10,i11 =>
   br (decide (i11<i10)) (
    gd ((decide ((0≤i11)∧(i11<(n8:Int))))&&(AR [.bool] l9 (Int.toNat i11))) (
    let b12:=(KD l9 (Int.toNat i11))
    br (!b12) (
     gd ((decide ((0≤i11)∧(i11<(n3:Int))))&&(AR [.bool] l4 (Int.toNat i11))) (
     br (KD l4 (Int.toNat i11)) (
      gd (Nat.ble (n6+1) 2147483648) (
      let n13:=(n6+1)
      let l14:=(l7++(AF (reps 1 [(T.bool false)]) 0 [(T.bool true)]))
      f102.l0 n m n1 l2 n3 l4 b5 n13 l14 n8 l9 i10 (IntKind.i64.wrap (i11+(1:Int))))) (
      gd (Nat.ble (n6+1) 2147483648) (
      let n15:=(n6+1)
      let l16:=(l7++(AF (reps 1 [(T.bool false)]) 0 [(T.bool (!b5))]))
      f102.l0 n m n1 l2 n3 l4 b5 n15 l16 n8 l9 i10 (IntKind.i64.wrap (i11+(1:Int))))))) (
     gd (Nat.ble (n6+1) 2147483648) (
     let n17:=(n6+1)
     let l18:=(l7++(AF (reps 1 [(T.bool false)]) 0 [(T.bool false)]))
     f102.l0 n m n1 l2 n3 l4 b5 n17 l18 n8 l9 i10 (IntKind.i64.wrap (i11+(1:Int))))))) (
    some (n6,l7))
def f102:Nat→Nat→List T→Nat→List T→Option (Nat × List T)
 | 0,_,_,_,_=>none
 | n+1,n1,l2,n3,l4 =>
   bd (f139 n n3 l4 true) fun r5 =>
   let b6:=r5
   bd (f102.l0 n n n1 l2 n3 l4 b6 0 [] n1 l2 (n1:Int) (0:Int)) fun r7 =>
   let n8:=r7.1
   let l9:=r7.2
   some (n8,l9)
def NC:B4 (dQ) where
 pk:=fun (a0,a1,a2,a3,a4,a5,a6,a7,a8,a9,a10)=>[.lst a0 a1,.lst a2 a3,.bool a4,.lst a5 a6,.lst a7 a8,.int a9,.int a10]
 up:=fun ls=>match ls with
  | [.lst a0 a1,.lst a2 a3,.bool a4,.lst a5 a6,.lst a7 a8,.int a9,.int a10]=>some (a0,a1,a2,a3,a4,a5,a6,a7,a8,a9,a10)
  | _=>none
def f102.l0.P:AS:=⟨[(0,E1),(1,E1),(5,Kl),(6,Ce),(11,E1),(12,An),(13,An)],0⟩
def f102.l0.A:Fy (Nat × List T):=.one (.exit 0) ⟨[(6,Ce)],0⟩ Bp
def f102.l0.F (n m:Nat) (v:dQ):=let (a,b,c,d,e,f,g,h,i,j,k):=v;f102.l0 n m a b c d e f g h i j k
def f102.l0.W (n:Nat):GT:=.of 64 f102.l0.P NC f102.l0.A (f102.l0.F n n)
def f102.P:List Aa:=[EK,EK]
def f102.A:AZ (Nat × List T):=.one ⟨[EZ],[none,none]⟩ Bp
def f102.F (n:Nat) (v:DZ):=let (a,b,c,d):=v;f102 n a b c d
def f102.O (n:Nat):BF:=AL (E:=E) [f139.w] [f102.l0.W n] n
theorem f102.l0.ok:∀ n,HO 102 YQ 0 n (f102.O n):=Hi f102.l0.P NC f102.l0.A f102.l0.F
theorem f102.ok:Bu 102 f102.P CN f102.A f102.F:=Bv YQ f102.O [Ap YQ 0] (fun n=>(.cons (f102.l0.ok n) .nil))
def f102.w:A7 E:=BL 102 f102.P CN f102.A f102.F f102.ok
def f71:Nat→Nat→List T→Option (Nat × List T)
 | 0,_,_=>none
 | n+1,n1,l2 =>
   bd (f71.l0 n n n1 l2 0 [] 0 [] n1 l2 (n1:Int) (0:Int)) fun r3 =>
   let n4:=r3.1
   let l5:=r3.2.1
   let n6:=r3.2.2.1
   let l7:=r3.2.2.2
   bd (f102 n n4 l5 n6 l7) fun r8 =>
   let n9:=r8.1
   let l10:=r8.2
   some (n9,l10)
def PD:B4 (dM) where
 pk:=fun (a0,a1,a2,a3,a4,a5,a6,a7,a8,a9)=>[.lst a0 a1,.lst a2 a3,.lst a4 a5,.lst a6 a7,.int a8,.int a9]
 up:=fun ls=>match ls with
  | [.lst a0 a1,.lst a2 a3,.lst a4 a5,.lst a6 a7,.int a8,.int a9]=>some (a0,a1,a2,a3,a4,a5,a6,a7,a8,a9)
  | _=>none
def f71.l0.P:AS:=⟨[(0,Om),(3,Ce),(4,Ce),(7,Om),(8,An),(9,An)],0⟩
def f71.l0.A:Fy (DZ):=.one (.exit 0) ⟨[(3,Ce),(4,Ce)],0⟩ CN
def f71.l0.F (n m:Nat) (v:dM):=let (a,b,c,d,e,f,g,h,i,j):=v;f71.l0 n m a b c d e f g h i j
def f71.l0.W (n:Nat):GT:=.of 48 f71.l0.P PD f71.l0.A (f71.l0.F n n)
def f71.P:List Aa:=[bF]
def f71.A:AZ (Nat × List T):=.one ⟨[EZ],[none]⟩ Bp
def f71.F (n:Nat) (v:Nat × List T):=f71 n v.1 v.2
def f71.O (n:Nat):BF:=AL (E:=E) [f102.w] [f71.l0.W n] n
theorem f71.l0.ok:∀ n,HO 71 dO 0 n (f71.O n):=Hi f71.l0.P PD f71.l0.A f71.l0.F
theorem f71.ok:Bu 71 f71.P Bp f71.A f71.F:=Bv dO f71.O [Ap dO 0] (fun n=>(.cons (f71.l0.ok n) .nil))
def f71.w:A7 E:=BL 71 f71.P Bp f71.A f71.F f71.ok
def f140:Nat→Int→Option (Nat)
 | 0,_=>none
 | n+1,i1 =>
   br (decide (i1≥(0:Int))) (
    bd (Ao n (9218868437227405312:Int)) fun r2 =>
    let x3:=r2
    some x3) (
    bd (Ao n (18442240474082181120:Int)) fun r4 =>
    let x5:=r4
    some x5)
def f140.P:List Aa:=[Cf]
def f140.A:AZ (Nat):=.one ⟨[T9],[none]⟩ BH
def f140.F (n:Nat) (v:Int):=f140 n v
def f140.O (n:Nat):BF:=AL (E:=E) [x168.w] [] n
theorem f140.ok:Bu 140 f140.P Gh f140.A f140.F:=Bv aY f140.O
def f140.w:A7 E:=BL 140 f140.P Gh f140.A f140.F f140.ok
def f103.l0 (n:Nat):Nat→Nat→Nat→Nat→Option (Nat)
 | 0,_,_,_=>none
 | m+1,x1,x2,x3 =>
   br (LH .f64 x3 4607182418800017408) (
    let x4:=(BD .f64 4607182418800017408 (fdiv .f64 (AT .f64 x1 x2) x3))
    f103.l0 n m x1 x4 (BW .f64 x3 4607182418800017408)) (
    some x2)
def f103.l1 (n:Nat):Nat→Nat→Int→Option (Nat)
 | 0,_,_=>none
 | m+1,x1,i2 =>
   br (decide (i2<(8:Int))) (
    let x3:=(AT .f64 x1 x1)
    f103.l1 n m x3 (IntKind.i64.wrap (i2+(1:Int)))) (
    some x1)
def f103:Nat→Nat→Option (Nat)
 | 0,_=>none
 | n+1,x1 =>
   br (H2 .f64 x1 4641240890982006784) (
    bd (f140 n (1:Int)) fun r2 =>
    let x3:=r2
    some x3) (
    br (flt .f64 x1 13864612927836782592) (
     some 0) (
     let x4:=(fdiv .f64 x1 4643211215818981376)
     bd (f103.l0 n n x4 4607182418800017408 4622945017495814144) fun r5 =>
     let x6:=r5
     bd (f103.l1 n n x6 (0:Int)) fun r7 =>
     let x8:=r7
     some x8))
def Zt:B4 (Nat × Int) where
 pk:=fun (a0,a1)=>[.flt a0,.int a1]
 up:=fun ls=>match ls with
  | [.flt a0,.int a1]=>some (a0,a1)
  | _=>none
def f103.l0.P:AS:=⟨[(3,MP),(4,MP),(5,MP)],0⟩
def f103.l0.A:Fy (Nat):=.one (.exit 1) ⟨[(4,MP)],0⟩ BH
def f103.l0.F (n m:Nat) (v:Nat × Nat × Nat):=f103.l0 n m v.1 v.2.1 v.2.2
def f103.l0.W (n:Nat):GT:=.of 112 f103.l0.P NP f103.l0.A (f103.l0.F n n)
def f103.l1.P:AS:=⟨[(4,MP),(6,An)],0⟩
def f103.l1.A:Fy (Nat):=.one (.exit 3) ⟨[(4,MP)],0⟩ BH
def f103.l1.F (n m:Nat) (v:Nat × Int):=f103.l1 n m v.1 v.2
def f103.l1.W (n:Nat):GT:=.of 176 f103.l1.P Zt f103.l1.A (f103.l1.F n n)
def f103.P:List Aa:=[Vc]
def f103.A:AZ (Nat):=.one ⟨[T9],[none]⟩ BH
def f103.F (n:Nat) (v:Nat):=f103 n v
def f103.O (n:Nat):BF:=AL (E:=E) [f140.w] [f103.l0.W n,f103.l1.W n] n
theorem f103.l0.ok:∀ n,HO 103 T5 0 n (f103.O n):=Hi f103.l0.P NP f103.l0.A f103.l0.F
theorem f103.l1.ok:∀ n,HO 103 T5 1 n (f103.O n):=Hi f103.l1.P Zt f103.l1.A f103.l1.F
theorem f103.ok:Bu 103 f103.P BH f103.A f103.F:=Bv T5 f103.O [Ap T5 0,Ap T5 1] (fun n=>(.cons (f103.l0.ok n) (.cons (f103.l1.ok n) .nil)))
def f103.w:A7 E:=BL 103 f103.P BH f103.A f103.F f103.ok
def f72:Nat→Int→Option (Nat × Bool)
 | 0,_=>none
 | n+1,i1 =>
   bd (f64 n i1) fun r2 =>
   let b3:=r2
   br (!b3) (
    some (0,false)) (
    bd (f103 n (AT .f64 (FloatKind.nearest .f64 i1) 4577790371455803420)) fun r4 =>
    let x5:=r4
    bd ((Aj .f64 x5 .f32)) fun y6 =>
    some (y6,true))
def f72.P:List Aa:=[Cf]
def f72.A:AZ (Nat × Bool):=.one ⟨[H4,CC],[none]⟩ W8
def f72.F (n:Nat) (v:Int):=f72 n v
def f72.O (n:Nat):BF:=AL (E:=E) [f64.w,f103.w] [] n
theorem f72.ok:Bu 72 f72.P Gh f72.A f72.F:=Bv gb f72.O
def f72.w:A7 E:=BL 72 f72.P Gh f72.A f72.F f72.ok
def f141:Nat→Nat→Option (Bool)
 | 0,_=>none
 | n+1,x1 =>
   some (RQ .f64 (BW .f64 x1 x1) 0)
end Go.Proofs.YtokonabdnlckdaaGreat.D
end
